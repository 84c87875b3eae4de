/- Package future with a nil thread, one goroutine: none, New, Claim, Await, Peek. Conditions: none. -/
import Derived.Test.YtgljjgmfhememaaGreatDoorListA
import Derived.Deep.QuietTactic
import Derived.BigQuiet
namespace Go.Proofs.YtgljjgmfhememaaGreatDoor
open Go Go.RowKit
set_option maxRecDepth 100000
set_option maxHeartbeats 1000000
def NoFut (w : World) (p : Option Addr) : Prop := p = none ∨ ∃ b cs, p = some ⟨b, 0, none⟩ ∧ Blk w b cs 31 ∧ cs[0]? = some (.pointer none)
theorem NoFut.same {w w' : World} {p : Option Addr} (h : NoFut w p) (hs : Same w w') : NoFut w' p := by
  rcases h with rfl | ⟨b, cs, rfl, hb, h3⟩
  · exact .inl rfl
  · exact .inr ⟨b, cs, rfl, hs.blk hb (fun x => x), h3⟩
theorem fut_made_none (w : World) (p : Option Addr) (h : NoFut w p) : Calls Tryz.prog 65 #[.pointer p] w fun e w' => e = .returned (.bool false) ∧ w = w' := by
  rcases h with rfl | ⟨b, cs, rfl, hb, h3⟩
  · go_enter Tryz.func65, Tryz.ntmps65
    go_wp2
    go_ret
    exact ⟨rfl, rfl⟩
  · have c3 := hb.cellAt 0 h3
    clear hb h3
    go_enter Tryz.func65, Tryz.ntmps65
    go_wp2
    go_ret
    exact ⟨rfl, rfl⟩
theorem fut_made (w : World) (b s : Nat) (cs : Array Value) (hb : Blk w b cs 31) (h3 : cs[0]? = some (.pointer (some ⟨s, 0, none⟩))) : Calls Tryz.prog 65 #[.pointer (some ⟨b, 0, none⟩)] w fun e w' => e = .returned (.bool true) ∧ w = w' := by
  have c3 := hb.cellAt 0 h3
  clear hb h3
  go_enter Tryz.func65, Tryz.ntmps65
  go_wp2
  go_ret
  exact ⟨rfl, rfl⟩
theorem fut_none_claim (w : World) (p : Option Addr) (h : NoFut w p) : Calls Tryz.prog 84 #[.pointer p, .pointer none] w fun e w' => e = .returned (.pointer none) ∧ w = w' := by
  go_enter Tryz.func84, Tryz.ntmps84
  go_wp2_with (first | (go_at_call 65; refine (fut_made_none _ _ h).mono ?_; rintro e w' ⟨rfl, rfl⟩))
  go_ret
  exact ⟨rfl, rfl⟩
theorem fut_none_await (w : World) (p : Option Addr) (h : NoFut w p) : Calls Tryz.prog 25 #[.pointer p, .pointer none] w fun e w' => e = .returned (.tuple #[.int .i64 0, .iface 33 (.int .i64 2)]) ∧ w = w' := by
  go_enter Tryz.func25, Tryz.ntmps25
  go_wp2_with (first | (go_at_call 65; refine (fut_made_none _ _ h).mono ?_; rintro e w' ⟨rfl, rfl⟩))
  go_ret2
  exact ⟨rfl, rfl⟩
theorem fut_none_peek (w : World) (p : Option Addr) (h : NoFut w p) : Calls Tryz.prog 18 #[.pointer p, .pointer none] w fun e w' => e = .returned (.tuple #[.int .i64 0, .nilIface, .bool false]) ∧ w = w' := by
  go_enter Tryz.func18, Tryz.ntmps18
  go_wp2_with (first | (go_at_call 65; refine (fut_made_none _ _ h).mono ?_; rintro e w' ⟨rfl, rfl⟩))
  go_ret3
  exact ⟨rfl, rfl⟩
theorem fut_none_then (w : World) (p : Option Addr) (f : Value) (h : NoFut w p) : Calls Tryz.prog 69 #[.pointer p, .pointer none, f] w fun e w' => e = .returned (.int .i64 2) ∧ w = w' := by
  go_enter Tryz.func69, Tryz.ntmps69
  go_wp2_with (first | (go_at_call 65; refine (fut_made_none _ _ h).mono ?_; rintro e w' ⟨rfl, rfl⟩))
  go_ret
  exact ⟨rfl, rfl⟩
theorem prom_none_fill (w : World) (v : Int) (e : Value) : Calls Tryz.prog 85 #[.pointer none, .pointer none, .int .i64 v, e] w fun e w' => e = .returned (.bool false) ∧ w = w' := by
  go_enter Tryz.func85, Tryz.ntmps85
  go_wp2_with fail
  go_ret
  exact ⟨rfl, rfl⟩
theorem prom_empty_fill (w : World) (p : Nat) (v : Int) (e : Value) (h : Blk w p #[.pointer none] 251) : Calls Tryz.prog 85 #[.pointer (some ⟨p, 0, none⟩), .pointer none, .int .i64 v, e] w fun e w' => e = .returned (.bool false) ∧ w = w' := by
  have c0 := h.cellAt 0 (v := .pointer none) rfl
  go_enter Tryz.func85, Tryz.ntmps85
  go_wp2_with fail
  go_ret
  exact ⟨rfl, rfl⟩
theorem fut_none_complete (w : World) (p : Option Addr) (v : Int) (e : Value) (h : NoFut w p) : Calls Tryz.prog 28 #[.pointer p, .pointer none, .int .i64 v, e] w fun e w' => e = .returned (.bool false) ∧ w = w' := by
  go_enter Tryz.func28, Tryz.ntmps28
  go_wp2_with (first | (go_at_call 84; refine (fut_none_claim _ _ h).mono ?_; rintro e w' ⟨rfl, rfl⟩) | (go_at_call 85; refine (prom_none_fill _ _ _).mono ?_; rintro e w' ⟨rfl, rfl⟩))
  go_ret
  exact ⟨rfl, rfl⟩
/-- A future at block b: its state's cell at s, its list at l. -/
structure FutAt (w : World) (b s l lb hb pb : Nat) (st : Int) (last head : Int) (pl : Array Value) (v : Int) (e : Value) : Prop where
  blk : Blk w b #[.pointer (some ⟨s, 0, none⟩), .pointer (some ⟨l, 0, none⟩), .int .i64 v, e] 31
  cell : CellAt w s st
  list : FList w l lb hb pb last head pl
  n1 : s ≠ lb
  n2 : s ≠ hb
theorem FutAt.chg {S : Nat → Prop} {w w' : World} {b s l lb hb pb : Nat} {st last head v : Int} {pl : Array Value} {e : Value} (h : FutAt w b s l lb hb pb st last head pl v e) (hc : Chg S w w') (h1 : ¬ S b) (h2 : ¬ S s) (h3 : ¬ S l) (h4 : ¬ S lb) (h5 : ¬ S hb) (h6 : ¬ S pb) : FutAt w' b s l lb hb pb st last head pl v e :=
  ⟨hc.blk h.blk h1, hc.blk h.cell h2, h.list.chg hc h3 h4 h5 h6, h.n1, h.n2⟩
/-- The blocks of a future lie apart. -/
theorem FutAt.ne {w : World} {b s l lb hb pb : Nat} {st last head v : Int} {pl : Array Value} {e : Value} (h : FutAt w b s l lb hb pb st last head pl v e) :
    b ≠ s ∧ b ≠ l ∧ b ≠ lb ∧ b ≠ hb ∧ b ≠ pb ∧ s ≠ l ∧ s ≠ lb ∧ s ≠ hb ∧ s ≠ pb ∧ l ≠ lb ∧ l ≠ hb ∧ l ≠ pb ∧ lb ≠ hb ∧ lb ≠ pb ∧ hb ≠ pb :=
  ⟨h.blk.ne h.cell (by decide), h.blk.ne h.list.blk (by decide), h.blk.ne h.list.clast (by decide), h.blk.ne h.list.chead (by decide), h.blk.ne h.list.places (by decide),
   h.cell.ne h.list.blk (by decide), h.n1, h.n2, h.cell.ne h.list.places (by decide), h.list.blk.ne h.list.clast (by decide), h.list.blk.ne h.list.chead (by decide), h.list.blk.ne h.list.places (by decide), h.list.ne, h.list.clast.ne h.list.places (by decide), h.list.chead.ne h.list.places (by decide)⟩
theorem FutAt.lt {w : World} {b s l lb hb pb : Nat} {st last head v : Int} {pl : Array Value} {e : Value} (h : FutAt w b s l lb hb pb st last head pl v e) :
    b < w.heap.size ∧ s < w.heap.size ∧ l < w.heap.size ∧ lb < w.heap.size ∧ hb < w.heap.size ∧ pb < w.heap.size :=
  ⟨h.blk.lt, h.cell.lt, h.list.blk.lt, h.list.clast.lt, h.list.chead.lt, h.list.places.lt⟩
def FutNew (w : World) (e : Ending) (w' : World) : Prop := ∃ b s l lb hb pb, e = .returned (.pointer (some ⟨b, 0, none⟩)) ∧ FutAt w' b s l lb hb pb 0 0 0 fpl0 0 .nilIface ∧ w.heap.size ≤ b ∧ w.heap.size ≤ s ∧ w.heap.size ≤ l ∧ w.heap.size ≤ lb ∧ w.heap.size ≤ hb ∧ w.heap.size ≤ pb ∧ Same w w'
theorem fut_new (w : World) : Calls Tryz.prog 10 #[] w (FutNew w) := by
  go_enter Tryz.func10, Tryz.ntmps10
  go_wp2_with (first | (go_at_call 29; refine (cell_new _ _).mono ?_; rintro e w' ⟨rfl, rfl⟩))
  have hs := CellAt.new w 0
  have hc : Same w (w.alloc (.cells #[.int .i64 0, .bool true, .int .i32 0, .int .u32 0, .chan none] 173)) := (Chg.refl _ _).alloc _
  have hz : (w.alloc (.cells #[.int .i64 0, .bool true, .int .i32 0, .int .u32 0, .chan none] 173)).heap.size = w.heap.size + 1 := by simp
  generalize w.alloc (.cells #[.int .i64 0, .bool true, .int .i32 0, .int .u32 0, .chan none] 173) = w1 at *
  refine (flist_new w1).mono ?_
  rintro e w2 ⟨l, lb, hb, pb, rfl, h1, g1, g2, g3, g4, hc2⟩
  have hs2 := hs.chg hc2 (fun x => x)
  go_wp2_with fail
  go_ret
  exact ⟨_, _, l, lb, hb, pb, rfl, ⟨Blk.neww rfl _ _, hs2.al _, h1.chg (S := fun _ => False) ((Chg.refl _ _).alloc _) (fun x => x) (fun x => x) (fun x => x) (fun x => x), by omega, by omega⟩, by have := hc2.size; omega, by omega, by omega, by omega, by omega, by omega, (hc.trans hc2).alloc _⟩
variable {w : World} {b s l lb hb pb : Nat} {st last head v : Int} {pl : Array Value} {x : Value}
theorem fut_claim_no (h : FutAt w b s l lb hb pb st last head pl v x) (hst : ¬ st = 0) : Calls Tryz.prog 84 #[.pointer (some ⟨b, 0, none⟩), .pointer none] w fun e w' => e = .returned (.pointer none) ∧ w = w' := by
  have c0 := h.blk.cellAt 0 (v := .pointer (some ⟨s, 0, none⟩)) rfl
  go_enter Tryz.func84, Tryz.ntmps84
  go_wp2_with (first | (go_at_call 65; refine (fut_made _ _ _ _ h.blk rfl).mono ?_; rintro e w' ⟨rfl, rfl⟩) | (go_at_call 79; refine (cell_cas_miss _ _ _ _ _ h.cell hst).mono ?_; rintro e w' ⟨rfl, rfl⟩))
  go_ret
  exact ⟨rfl, rfl⟩
theorem fut_claim (h : FutAt w b s l lb hb pb 0 last head pl v x) : Calls Tryz.prog 84 #[.pointer (some ⟨b, 0, none⟩), .pointer none] w fun e w' =>
    ∃ p, e = .returned (.pointer (some ⟨p, 0, none⟩)) ∧ FutAt w' b s l lb hb pb 1 last head pl v x ∧ Blk w' p #[.pointer (some ⟨b, 0, none⟩)] 251 ∧ w.heap.size ≤ p ∧ Chg (· = s) w w' := by
  obtain ⟨a1, a2, a3, a4, a5, a6, a7, a8, a9, a10, a11, a12, a13, a14, a15⟩ := h.ne
  have c0 := h.blk.cellAt 0 (v := .pointer (some ⟨s, 0, none⟩)) rfl
  go_enter Tryz.func84, Tryz.ntmps84
  go_wp2_with (first | (go_at_call 65; refine (fut_made _ _ _ _ h.blk rfl).mono ?_; rintro e w' ⟨rfl, rfl⟩))
  refine (cas_ok _ _ _ _ h.cell).mono ?_
  rintro e w1 ⟨rfl, g1, g2⟩
  have h1 : FutAt w1 b s l lb hb pb 1 last head pl v x := ⟨g2.blk h.blk a1, g1, h.list.chg g2 (Ne.symm a6) (Ne.symm a7) (Ne.symm a8) (Ne.symm a9), a7, a8⟩
  go_wp2_with fail
  go_ret
  exact ⟨_, rfl, h1.chg (S := fun _ => False) ((Chg.refl _ _).alloc _) (fun x => x) (fun x => x) (fun x => x) (fun x => x) (fun x => x) (fun x => x), Blk.neww rfl _ _, g2.size, g2.alloc _⟩
theorem fut_complete_no (h : FutAt w b s l lb hb pb st last head pl v x) (hst : ¬ st = 0) (u : Int) (y : Value) : Calls Tryz.prog 28 #[.pointer (some ⟨b, 0, none⟩), .pointer none, .int .i64 u, y] w fun e w' => e = .returned (.bool false) ∧ w = w' := by
  go_enter Tryz.func28, Tryz.ntmps28
  go_wp2_with (first | (go_at_call 84; refine (fut_claim_no h hst).mono ?_; rintro e w' ⟨rfl, rfl⟩) | (go_at_call 85; refine (prom_none_fill _ _ _).mono ?_; rintro e w' ⟨rfl, rfl⟩))
  go_ret
  exact ⟨rfl, rfl⟩
theorem fut_await (h : FutAt w b s l lb hb pb st last head pl v x) (hst : 2 ≤ st) : Calls Tryz.prog 25 #[.pointer (some ⟨b, 0, none⟩), .pointer none] w fun e w' => e = .returned (.tuple #[.int .i64 v, x]) ∧ Same w w' := by
  have c0 := h.blk.cellAt 0 (v := .pointer (some ⟨s, 0, none⟩)) rfl
  have c2 := h.blk.cellAt 2 (v := .int .i64 v) rfl
  have c3 := h.blk.cellAt 3 (v := x) rfl
  go_enter Tryz.func25, Tryz.ntmps25
  go_wp2_with (first | (go_at_call 65; refine (fut_made _ _ _ _ h.blk rfl).mono ?_; rintro e w' ⟨rfl, rfl⟩) | (go_at_call 66; refine (cell_load_at _ _ _ h.cell).mono ?_; rintro e w' ⟨rfl, rfl⟩))
  refine wp_loop_rounds 1 ?_; rw [rounds_succ]
  go_wp2_with fail
  go_quiet (fail)
  go_wp2_with fail
  go_ret2
  exact ⟨rfl, (Chg.refl _ _).drewN _⟩
theorem fut_peek (h : FutAt w b s l lb hb pb st last head pl v x) (hst : 2 ≤ st) : Calls Tryz.prog 18 #[.pointer (some ⟨b, 0, none⟩), .pointer none] w fun e w' => e = .returned (.tuple #[.int .i64 v, x, .bool true]) ∧ Same w w' := by
  have c0 := h.blk.cellAt 0 (v := .pointer (some ⟨s, 0, none⟩)) rfl
  have c2 := h.blk.cellAt 2 (v := .int .i64 v) rfl
  have c3 := h.blk.cellAt 3 (v := x) rfl
  go_enter Tryz.func18, Tryz.ntmps18
  go_wp2_with (first | (go_at_call 65; refine (fut_made _ _ _ _ h.blk rfl).mono ?_; rintro e w' ⟨rfl, rfl⟩) | (go_at_call 66; refine (cell_load_at _ _ _ h.cell).mono ?_; rintro e w' ⟨rfl, rfl⟩))
  go_quiet (fail)
  go_wp2_with fail
  go_ret3
  exact ⟨rfl, (Chg.refl _ _).drewN _⟩
theorem fut_then_nil (h : FutAt w b s l lb hb pb st last head pl v x) : Calls Tryz.prog 69 #[.pointer (some ⟨b, 0, none⟩), .pointer none, .nilFunc] w fun e w' => e = .returned (.int .i64 1) ∧ w = w' := by
  have hnn : ∀ w, (binOp .eql 131 .nilFunc .nilFunc).run Tryz.prog w = .ok (.bool true) w := fun w => by kernel_rfl
  go_enter Tryz.func69, Tryz.ntmps69
  go_wp2_with (first | (go_at_call 65; refine (fut_made _ _ _ _ h.blk rfl).mono ?_; rintro e w' ⟨rfl, rfl⟩))
  go_ret
  exact ⟨rfl, rfl⟩
theorem fut_then_add (h : FutAt w b s l lb hb pb st 0 0 pl v x) (F : Nat) (cap : Array Value) : Calls Tryz.prog 69 #[.pointer (some ⟨b, 0, none⟩), .pointer none, .func (.func F) #[] cap] w fun e w' => e = .returned (.int .i64 0) ∧ FutAt w' b s l lb hb pb st 1 1 ((pl.setIfInBounds 2 (.func (.func F) #[] cap)).setIfInBounds 3 (.int .i64 0)) v x ∧ Chg (fun k => k = lb ∨ k = hb ∨ k = pb) w w' := by
  have hnn : ∀ w, (binOp .eql 131 (.func (.func F) #[] cap) .nilFunc).run Tryz.prog w = .ok (.bool false) w := fun w => by kernel_rfl
  have hne := h.ne
  have c1 := h.blk.cellAt 1 (v := .pointer (some ⟨l, 0, none⟩)) rfl
  go_enter Tryz.func69, Tryz.ntmps69
  go_wp2_with (first | (go_at_call 65; refine (fut_made _ _ _ _ h.blk rfl).mono ?_; rintro e w' ⟨rfl, rfl⟩))
  refine (flist_add _ _ _ _ _ _ _ _ h.list).mono ?_
  rintro e w1 ⟨rfl, g1, g2⟩
  have h1 : FutAt w1 b s l lb hb pb st 1 1 ((pl.setIfInBounds 2 (.func (.func F) #[] cap)).setIfInBounds 3 (.int .i64 0)) v x := ⟨g2.blk h.blk (by omega), g2.blk h.cell (by omega), g1, h.n1, h.n2⟩
  go_wp2_with fail
  go_ret
  exact ⟨rfl, h1, g2⟩
end Go.Proofs.YtgljjgmfhememaaGreatDoor
