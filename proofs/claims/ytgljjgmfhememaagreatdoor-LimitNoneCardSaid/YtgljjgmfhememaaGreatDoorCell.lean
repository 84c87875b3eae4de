/- Package cell with a nil thread, one goroutine: what New, Load, Store, Cas, Add, Swap do to the cell's block. Conditions: none. -/
import Derived.Test.YtgljjgmfhememaaGreatDoorMem
import Derived.Test.YtgljjgmfhememaaGreatDoorLocks
import Derived.Laws.LoneSync
import Derived.Defers
import Derived.Outline
import Derived.Deep.DeepFit
namespace Go.Proofs.YtgljjgmfhememaaGreatDoor
open Go Go.RowKit Go.MuLone
set_option maxRecDepth 100000

/-- A free cell that holds v, at the head of block b: nobody sleeps at it, its lock is free. -/
def CellAt (w : World) (b : Nat) (v : Int) : Prop := Blk w b #[.int .i64 v, .bool true, .int .i32 0, .int .u32 0, .chan none] 173

theorem CellAt.c0 {w : World} {b : Nat} {v : Int} (h : CellAt w b v) : w.cell? ⟨b, 0, none⟩ = some (.int .i64 v) := h.cellAt 0 rfl
theorem CellAt.c1 {w : World} {b : Nat} {v : Int} (h : CellAt w b v) : w.cell? ⟨b, 1, none⟩ = some (.bool true) := h.cellAt 1 rfl
theorem CellAt.c2 {w : World} {b : Nat} {v : Int} (h : CellAt w b v) : w.cell? ⟨b, 2, none⟩ = some (.int .i32 0) := h.cellAt 2 rfl
theorem CellAt.c4 {w : World} {b : Nat} {v : Int} (h : CellAt w b v) : w.cell? ⟨b, 4, none⟩ = some (.chan none) := h.cellAt 4 rfl

theorem atomicLoad {a : Addr} {x : Int} {w : World} (hc : w.cell? a = some (.int .i64 x)) : (callFunc 182 #[.pointer (some a)]).run Tryz.prog w = .ok (.value (.int .i64 x)) w :=
  run_call_load Tryz.func182 (by kernel_rfl) (by kernel_rfl) (by kernel_rfl) .i64 (by kernel_rfl) hc
theorem atomicStore {a : Addr} {u : Value} {y : Int} {w : World} (hc : w.cell? a = some u) (hz : w.frozen? a = false) : (callFunc 134 #[.pointer (some a), .int .i64 y]).run Tryz.prog w = .ok (.value (.tuple #[])) (w.setCell a (.int .i64 y)) :=
  run_call_store Tryz.func134 (by kernel_rfl) (by kernel_rfl) (by kernel_rfl) (by kernel_rfl) hc hz
theorem atomicCasHit {a : Addr} {x y : Int} {w : World} (hc : w.cell? a = some (.int .i64 x)) (hz : w.frozen? a = false) : (callFunc 184 #[.pointer (some a), .int .i64 x, .int .i64 y]).run Tryz.prog w = .ok (.value (.bool true)) (w.setCell a (.int .i64 y)) :=
  run_call_cas_hit Tryz.func184 (by kernel_rfl) (by kernel_rfl) (by kernel_rfl) .i64 (by kernel_rfl) hc hz
theorem atomicCasMiss {a : Addr} {x o y : Int} {w : World} (hc : w.cell? a = some (.int .i64 x)) (hz : w.frozen? a = false) (hne : ¬ x = o) : (callFunc 184 #[.pointer (some a), .int .i64 o, .int .i64 y]).run Tryz.prog w = .ok (.value (.bool false)) w :=
  run_call_cas_miss Tryz.func184 (by kernel_rfl) (by kernel_rfl) (by kernel_rfl) .i64 (by kernel_rfl) hc hz hne
theorem atomicAdd {a : Addr} {x y : Int} {w : World} (hc : w.cell? a = some (.int .i64 x)) (hz : w.frozen? a = false) : (callFunc 140 #[.pointer (some a), .int .i64 y]).run Tryz.prog w = .ok (.value (.int .i64 (wrap64 (x + y)))) (w.setCell a (.int .i64 (wrap64 (x + y)))) :=
  run_call_add Tryz.func140 (by kernel_rfl) (by kernel_rfl) (by kernel_rfl) .i64 (by kernel_rfl) hc hz (by simp [go_sem, wrap64, IntKind.wrap_i64])

theorem cell_none_nil (w : World) : Calls Tryz.prog 90 #[.pointer none] w fun e w' => e = .returned (.bool true) ∧ w = w' := by
  go_enter Tryz.func90, Tryz.ntmps90
  go_wp2
  go_ret
  exact ⟨rfl, rfl⟩
theorem cell_none_at (w : World) (b : Nat) (v : Int) (h : CellAt w b v) : Calls Tryz.prog 90 #[.pointer (some ⟨b, 0, none⟩)] w fun e w' => e = .returned (.bool false) ∧ w = w' := by
  have h1 := h.c1
  clear h
  go_enter Tryz.func90, Tryz.ntmps90
  go_wp2
  go_ret
  exact ⟨rfl, rfl⟩
theorem live_nil (w : World) : Calls Tryz.prog 91 #[.pointer none] w fun e w' => e = .returned (.bool false) ∧ w = w' := by
  go_enter Tryz.func91, Tryz.ntmps91
  go_wp2
  go_ret
  exact ⟨rfl, rfl⟩
theorem cell_load_at (w : World) (b : Nat) (v : Int) (h : CellAt w b v) : Calls Tryz.prog 66 #[.pointer (some ⟨b, 0, none⟩), .pointer none] w fun e w' => e = .returned (.int .i64 v) ∧ w = w' := by
  have h0 := h.c0
  have ha := atomicLoad h0
  go_enter Tryz.func66, Tryz.ntmps66
  go_wp2_with (first | (go_at_call 90; refine (cell_none_at _ _ _ h).mono ?_; rintro e w' ⟨rfl, rfl⟩) | (go_at_call 91; refine (live_nil _).mono ?_; rintro e w' ⟨rfl, rfl⟩) | (go_at_call 128; go_in))
  go_ret
  exact ⟨rfl, rfl⟩

theorem atomicSwap {a : Addr} {x y : Int} {w : World} (hc : w.cell? a = some (.int .i64 x)) (hz : w.frozen? a = false) : (callFunc 213 #[.pointer (some a), .int .i64 y]).run Tryz.prog w = .ok (.value (.int .i64 x)) (w.setCell a (.int .i64 y)) := by
  rw [run_callFunc_extern Tryz.func213 (by kernel_rfl) (by kernel_rfl) (by kernel_rfl) (e := Extern.Atomic.swapT (.int .i64)) (by kernel_rfl)]
  change (Sem.run Tryz.prog (do
    let a' ← asAddr (.pointer (some a))
    let old ← Extern.Atomic.read (.int .i64) a'
    store a' (.int .i64 y) .atomic
    pure old) w).andThen _ = _
  simp [Extern.Atomic.read, asAddr, hc, hz, run_store Tryz.prog w a (.int .i64 y) .atomic rfl, Result.andThen]

/-- Nobody sleeps: nothing is turned. -/
theorem wakes_at (w : World) (b : Nat) (v : Int) (h : CellAt w b v) : Calls Tryz.prog 94 #[.pointer (some ⟨b, 0, none⟩)] w fun e w' => e = .returned (.tuple #[]) ∧ w = w' := by
  have h4 := h.c4
  have h2 := h.c2
  have f2 : w.frozen? ⟨b, 2, none⟩ = false := h.free 2
  have hneq : ∀ w, (binOp .neq 171 (.chan none) (.chan none)).run Tryz.prog w = .ok (.bool false) w := fun _ => by kernel_rfl
  go_enter_defers Tryz.func94, Tryz.ntmps94
  go_wp2_with (go_at_call 141; refine (lock_free muLib ⟨b, 2, none⟩ _ h2 f2).mono ?_; rintro e w' ⟨rfl, rfl⟩)
  refine leaves_cons (f := 142) (args := #[.pointer (some ⟨b, 2, none⟩)]) (by simp) (by simp [go_sem]) ?_
  refine (unlock_deferred muLib ⟨b, 2, none⟩ .returning _ ?_ ?_).mono ?_
  · exact World.cell?_setCell_same w ⟨b, 2, none⟩ (.int .i32 1) h2
  · simp [f2]
  rintro e u' w'' ⟨rfl, rfl, rfl⟩
  exact ⟨_, results_none rfl _ _ _, rfl, by rw [setCell_twice, setCell_same_val _ _ _ h2]⟩

theorem CellAt.put {w : World} {b : Nat} {v : Int} (h : CellAt w b v) (y : Int) : CellAt (w.setCell ⟨b, 0, none⟩ (.int .i64 y)) b y := by
  have := Blk.set h 0 (.int .i64 y)
  simpa [CellAt] using this

theorem cell_store_at (w : World) (b : Nat) (v y : Int) (h : CellAt w b v) : Calls Tryz.prog 80 #[.pointer (some ⟨b, 0, none⟩), .pointer none, .int .i64 y] w fun e w' => e = .returned (.tuple #[]) ∧ w.setCell ⟨b, 0, none⟩ (.int .i64 y) = w' := by
  have h0 := h.c0
  have f0 : w.frozen? ⟨b, 0, none⟩ = false := h.free 0
  have ha := atomicStore (y := y) h0 f0
  go_enter Tryz.func80, Tryz.ntmps80
  go_wp2_with (first | (go_at_call 90; refine (cell_none_at _ _ _ h).mono ?_; rintro e w' ⟨rfl, rfl⟩) | (go_at_call 91; refine (live_nil _).mono ?_; rintro e w' ⟨rfl, rfl⟩) | (go_at_call 86; go_in) | (go_at_call 94; refine (wakes_at _ _ _ (h.put y)).mono ?_; rintro e w' ⟨rfl, rfl⟩))
  go_end0
  exact ⟨rfl, rfl⟩
theorem cell_cas_hit (w : World) (b : Nat) (v y : Int) (h : CellAt w b v) : Calls Tryz.prog 79 #[.pointer (some ⟨b, 0, none⟩), .pointer none, .int .i64 v, .int .i64 y] w fun e w' => e = .returned (.bool true) ∧ w.setCell ⟨b, 0, none⟩ (.int .i64 y) = w' := by
  have h0 := h.c0
  have f0 : w.frozen? ⟨b, 0, none⟩ = false := h.free 0
  have ha := atomicCasHit (y := y) h0 f0
  go_enter Tryz.func79, Tryz.ntmps79
  go_wp2_with (first | (go_at_call 90; refine (cell_none_at _ _ _ h).mono ?_; rintro e w' ⟨rfl, rfl⟩) | (go_at_call 91; refine (live_nil _).mono ?_; rintro e w' ⟨rfl, rfl⟩) | (go_at_call 131; go_in) | (go_at_call 94; refine (wakes_at _ _ _ (h.put y)).mono ?_; rintro e w' ⟨rfl, rfl⟩))
  go_ret
  exact ⟨rfl, rfl⟩
theorem cell_cas_miss (w : World) (b : Nat) (v o y : Int) (h : CellAt w b v) (hne : ¬ v = o) : Calls Tryz.prog 79 #[.pointer (some ⟨b, 0, none⟩), .pointer none, .int .i64 o, .int .i64 y] w fun e w' => e = .returned (.bool false) ∧ w = w' := by
  have h0 := h.c0
  have f0 : w.frozen? ⟨b, 0, none⟩ = false := h.free 0
  have ha := atomicCasMiss (y := y) h0 f0 hne
  go_enter Tryz.func79, Tryz.ntmps79
  go_wp2_with (first | (go_at_call 90; refine (cell_none_at _ _ _ h).mono ?_; rintro e w' ⟨rfl, rfl⟩) | (go_at_call 91; refine (live_nil _).mono ?_; rintro e w' ⟨rfl, rfl⟩) | (go_at_call 131; go_in))
  go_ret
  exact ⟨rfl, rfl⟩
theorem cell_add_at (w : World) (b : Nat) (v d : Int) (h : CellAt w b v) : Calls Tryz.prog 34 #[.pointer (some ⟨b, 0, none⟩), .pointer none, .int .i64 d] w fun e w' => e = .returned (.int .i64 (wrap64 (v + d))) ∧ w.setCell ⟨b, 0, none⟩ (.int .i64 (wrap64 (v + d))) = w' := by
  have h0 := h.c0
  have f0 : w.frozen? ⟨b, 0, none⟩ = false := h.free 0
  have ha := atomicAdd (y := d) h0 f0
  go_enter Tryz.func34, Tryz.ntmps34
  go_wp2_with (first | (go_at_call 90; refine (cell_none_at _ _ _ h).mono ?_; rintro e w' ⟨rfl, rfl⟩) | (go_at_call 91; refine (live_nil _).mono ?_; rintro e w' ⟨rfl, rfl⟩) | (go_at_call 93; go_in) | (go_at_call 94; refine (wakes_at _ _ _ (h.put (wrap64 (v + d)))).mono ?_; rintro e w' ⟨rfl, rfl⟩))
  go_ret
  exact ⟨rfl, rfl⟩
theorem cell_swap_at (w : World) (b : Nat) (v y : Int) (h : CellAt w b v) : Calls Tryz.prog 170 #[.pointer (some ⟨b, 0, none⟩), .pointer none, .int .i64 y] w fun e w' => e = .returned (.int .i64 v) ∧ w.setCell ⟨b, 0, none⟩ (.int .i64 y) = w' := by
  have h0 := h.c0
  have f0 : w.frozen? ⟨b, 0, none⟩ = false := h.free 0
  have ha := atomicSwap (y := y) h0 f0
  go_enter Tryz.func170, Tryz.ntmps170
  go_wp2_with (first | (go_at_call 90; refine (cell_none_at _ _ _ h).mono ?_; rintro e w' ⟨rfl, rfl⟩) | (go_at_call 91; refine (live_nil _).mono ?_; rintro e w' ⟨rfl, rfl⟩) | (go_at_call 198; go_in) | (go_at_call 94; refine (wakes_at _ _ _ (h.put y)).mono ?_; rintro e w' ⟨rfl, rfl⟩))
  go_ret
  exact ⟨rfl, rfl⟩
/-- A new cell lies in one new block. -/
theorem cell_new (w : World) (v : Int) : Calls Tryz.prog 29 #[.int .i64 v] w fun e w' => e = .returned (.pointer (some ⟨w.heap.size, 0, none⟩)) ∧ w.alloc (.cells #[.int .i64 v, .bool true, .int .i32 0, .int .u32 0, .chan none] 173) = w' := by
  have ha := atomicStore (a := ⟨w.heap.size, 0, none⟩) (u := .int .i64 0) (y := v) (w := w.alloc (.cells #[.int .i64 0, .bool true, .int .i32 0, .int .u32 0, .chan none] 173)) (by simp) (by simp)
  go_enter Tryz.func29, Tryz.ntmps29
  go_wp2
  go_ret
  refine ⟨rfl, ?_⟩
  simp
theorem CellAt.new (w : World) (v : Int) : CellAt (w.alloc (.cells #[.int .i64 v, .bool true, .int .i32 0, .int .u32 0, .chan none] 173)) w.heap.size v := Blk.new _ _ _

/-! The same, as callers need it: the block known again, all else as it was. -/
theorem set_chg (w : World) (b : Nat) (x : Value) : Chg (· = b) w (w.setCell ⟨b, 0, none⟩ x) :=
  Chg.setCell (S := fun k => k = b) (p := ⟨b, 0, none⟩) (Chg.refl _ _) (Or.inl rfl) _
theorem store_ok (w : World) (b : Nat) (v y : Int) (h : CellAt w b v) : Calls Tryz.prog 80 #[.pointer (some ⟨b, 0, none⟩), .pointer none, .int .i64 y] w fun e w' => e = .returned (.tuple #[]) ∧ CellAt w' b y ∧ Chg (· = b) w w' :=
  (cell_store_at w b v y h).mono fun _ _ ⟨he, hw⟩ => ⟨he, hw ▸ h.put y, hw ▸ set_chg w b _⟩
theorem cas_ok (w : World) (b : Nat) (v y : Int) (h : CellAt w b v) : Calls Tryz.prog 79 #[.pointer (some ⟨b, 0, none⟩), .pointer none, .int .i64 v, .int .i64 y] w fun e w' => e = .returned (.bool true) ∧ CellAt w' b y ∧ Chg (· = b) w w' :=
  (cell_cas_hit w b v y h).mono fun _ _ ⟨he, hw⟩ => ⟨he, hw ▸ h.put y, hw ▸ set_chg w b _⟩
theorem add_ok (w : World) (b : Nat) (v d : Int) (h : CellAt w b v) : Calls Tryz.prog 34 #[.pointer (some ⟨b, 0, none⟩), .pointer none, .int .i64 d] w fun e w' => e = .returned (.int .i64 (wrap64 (v + d))) ∧ CellAt w' b (wrap64 (v + d)) ∧ Chg (· = b) w w' :=
  (cell_add_at w b v d h).mono fun _ _ ⟨he, hw⟩ => ⟨he, hw ▸ h.put _, hw ▸ set_chg w b _⟩
theorem swap_ok (w : World) (b : Nat) (v y : Int) (h : CellAt w b v) : Calls Tryz.prog 170 #[.pointer (some ⟨b, 0, none⟩), .pointer none, .int .i64 y] w fun e w' => e = .returned (.int .i64 v) ∧ CellAt w' b y ∧ Chg (· = b) w w' :=
  (cell_swap_at w b v y h).mono fun _ _ ⟨he, hw⟩ => ⟨he, hw ▸ h.put y, hw ▸ set_chg w b _⟩
theorem CellAt.chg {w w' : World} {S : Nat → Prop} {b : Nat} {v : Int} (h : CellAt w b v) (hc : Chg S w w') (hn : ¬ S b) : CellAt w' b v := hc.blk h hn
theorem mark_nil (x y : Int) (w : World) : Calls Tryz.prog 162 #[.pointer none, .int .i64 x, .int .i64 y] w fun e w' => e = .returned (.tuple #[]) ∧ w = w' := by
  go_enter Tryz.func162, Tryz.ntmps162
  go_wp2_with (first | (go_at_call 91; refine (live_nil _).mono ?_; rintro e w' ⟨rfl, rfl⟩))
  go_end0
  exact ⟨rfl, rfl⟩
end Go.Proofs.YtgljjgmfhememaaGreatDoor
