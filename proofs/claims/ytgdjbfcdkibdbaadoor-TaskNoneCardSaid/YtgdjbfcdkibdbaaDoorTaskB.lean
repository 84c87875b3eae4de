/- Package task with a nil thread, one goroutine: Cancel, Run. Conditions: none. -/
import Derived.Test.YtgdjbfcdkibdbaaDoorTaskA
namespace Go.Proofs.YtgdjbfcdkibdbaaDoor
open Go Go.RowKit
set_option maxRecDepth 100000
set_option maxHeartbeats 1000000
theorem task_drop (w : World) (b s : Nat) (num : Int) (f : Value) (st v : Int) (x : Value) (r : Int) (h : TaskAt w b s num f st v x) : Calls Tryd.prog 64 #[.pointer (some ⟨b, 0, none⟩), .pointer none, .int .i64 r] w fun e w' =>
    e = .returned (.tuple #[]) ∧ TaskAt w' b s num f 3 v (.iface 56 (.pointer (some ⟨w.heap.size, 0, none⟩))) ∧ Blk w' w.heap.size #[.int .i64 r] 88 ∧ Chg (fun k => k = b ∨ k = s) w w' := by
  have hne := h.ne
  have hlt := h.blk.lt
  have hls := h.cell.lt
  have c5 := h.blk.cellAt 5 (v := x) rfl
  have z5 := h.blk.free 5
  have b2 := (h.blk.set 5 (.iface 56 (.pointer (some ⟨w.heap.size, 0, none⟩)))).alloc (.cells #[.int .i64 r] 88)
  have d0 := b2.cellAt 0 (v := .int .i64 num) rfl
  have d3 := b2.cellAt 3 (v := .pointer (some ⟨s, 0, none⟩)) rfl
  have s2 : CellAt ((w.setCell ⟨b, 5, none⟩ (.iface 56 (.pointer (some ⟨w.heap.size, 0, none⟩)))).alloc (.cells #[.int .i64 r] 88)) s st := (h.cell.set_other (a := ⟨b, 5, none⟩) hne _).alloc _
  have hS := Lib.hid s2
  have hB := Lib.hid b2
  clear h b2 s2
  go_enter Tryd.func64, Tryd.ntmps64
  go_wp2_with (first | (go_at_call 65; refine (mark_nil _ _ _).mono ?_; rintro e w' ⟨rfl, rfl⟩) | (go_at_call 67; refine (store_ok _ _ _ _ hS.out).mono ?_; rintro e w' ⟨rfl, g1, g2⟩))
  go_end0
  refine ⟨rfl, ⟨?_, g1⟩, ?_, ?_⟩
  · have := g2.blk hB.out hne
    simpa using this
  · exact g2.blk (Blk.new' (by simp [World.setCell]) _ _) (by show ¬ w.heap.size = s; omega)
  · refine Chg.trans' (Chg.alloc (Chg.setCell (Chg.refl _ _) (.inl (.inl rfl)) _) _) g2 (fun i _ e => .inr e)
theorem task_cancel_low (w : World) (b s : Nat) (num : Int) (f : Value) (st v : Int) (x : Value) (r : Int) (h : TaskAt w b s num f st v x) (hr : r < 1) : Calls Tryd.prog 10 #[.pointer (some ⟨b, 0, none⟩), .pointer none, .int .i64 r] w fun e w' => e = .returned (.bool false) ∧ w = w' := by
  go_enter Tryd.func10, Tryd.ntmps10
  go_wp2_with (first | (go_at_call 59; refine (task_made _ _ _ _ h.blk rfl).mono ?_; rintro e w' ⟨rfl, rfl⟩))
  go_ret
  exact ⟨rfl, rfl⟩
theorem task_cancel_late (w : World) (b s : Nat) (num : Int) (f : Value) (st v : Int) (x : Value) (r : Int) (h : TaskAt w b s num f st v x) (hr : 1 ≤ r) (hst : ¬ st = 0) : Calls Tryd.prog 10 #[.pointer (some ⟨b, 0, none⟩), .pointer none, .int .i64 r] w fun e w' => e = .returned (.bool false) ∧ w = w' := by
  have c3 := h.blk.cellAt 3 (v := .pointer (some ⟨s, 0, none⟩)) rfl
  go_enter Tryd.func10, Tryd.ntmps10
  go_wp2_with (first | (go_at_call 59; refine (task_made _ _ _ _ h.blk rfl).mono ?_; rintro e w' ⟨rfl, rfl⟩) | (go_at_call 62; refine (cell_cas_miss _ _ _ _ _ h.cell hst).mono ?_; rintro e w' ⟨rfl, rfl⟩))
  go_ret
  exact ⟨rfl, rfl⟩
theorem task_cancel (w : World) (b s : Nat) (num : Int) (f : Value) (v : Int) (x : Value) (r : Int) (h : TaskAt w b s num f 0 v x) (hr : 1 ≤ r) : Calls Tryd.prog 10 #[.pointer (some ⟨b, 0, none⟩), .pointer none, .int .i64 r] w fun e w' =>
    ∃ c, e = .returned (.bool true) ∧ TaskAt w' b s num f 3 v (.iface 56 (.pointer (some ⟨c, 0, none⟩))) ∧ Blk w' c #[.int .i64 r] 88 ∧ w.heap.size ≤ c ∧ Chg (fun k => k = b ∨ k = s) w w' := by
  have hne := h.ne
  have c3 := h.blk.cellAt 3 (v := .pointer (some ⟨s, 0, none⟩)) rfl
  go_enter Tryd.func10, Tryd.ntmps10
  go_wp2_with (first | (go_at_call 59; refine (task_made _ _ _ _ h.blk rfl).mono ?_; rintro e w' ⟨rfl, rfl⟩))
  refine (cas_ok _ _ _ _ h.cell).mono ?_
  rintro e w1 ⟨rfl, g1, g2⟩
  have h1 : TaskAt w1 b s num f 1 v x := ⟨g2.blk h.blk hne, g1⟩
  go_wp2_with fail
  refine (task_drop _ _ _ _ _ _ _ _ _ h1).mono ?_
  rintro e w2 ⟨rfl, k1, k2, k3⟩
  go_wp2_with fail
  go_ret
  exact ⟨w1.heap.size, rfl, k1, k2, g2.size, Chg.trans' (g2.mono (fun _ _ e => .inr e)) k3 (fun _ _ e => e)⟩
theorem task_run_late (w : World) (b s : Nat) (num : Int) (f : Value) (st v : Int) (x : Value) (h : TaskAt w b s num f st v x) (hst : ¬ st = 0) : Calls Tryd.prog 9 #[.pointer (some ⟨b, 0, none⟩), .pointer none] w fun e w' => e = .returned (.bool false) ∧ Same w w' := by
  have h0 : TaskAt ((w.alloc (.cells #[.pointer (some ⟨b, 0, none⟩)] 22)).alloc (.cells #[.pointer none] 38)) b s num f st v x := h.chg (S := fun _ => False) (((Chg.refl _ _).alloc _).alloc _) (fun x => x) (fun x => x)
  have c3 := h0.blk.cellAt 3 (v := .pointer (some ⟨s, 0, none⟩)) rfl
  go_enter Tryd.func9, Tryd.ntmps9
  go_wp2_with fail
  go_quiet ((first | (go_at_call 59; exact quiet_left (task_made _ _ _ _ (h0.blk.drewN _) rfl)) | (go_at_call 62; exact quiet_left (cell_cas_miss _ _ _ _ _ (h0.cell.drewN _) hst))))
  go_wp2_with fail
  go_ret
  exact ⟨rfl, ((((Chg.refl _ _).alloc _).alloc _)).drewN _⟩
end Go.Proofs.YtgdjbfcdkibdbaaDoor
