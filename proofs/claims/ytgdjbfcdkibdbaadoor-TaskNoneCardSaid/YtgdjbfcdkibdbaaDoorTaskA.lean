/- Package task with a nil thread, one goroutine: tasks that New made, without a token. Conditions: none. -/
import Derived.Test.YtgdjbfcdkibdbaaDoorTask
namespace Go.Proofs.YtgdjbfcdkibdbaaDoor
open Go Go.RowKit
set_option maxRecDepth 100000
set_option maxHeartbeats 1000000
theorem Blk.new' {w : World} {n : Nat} (hn : n = w.heap.size) (cs : Array Value) (T : TypeId) : Blk (w.alloc (.cells cs T)) n cs T := hn ▸ Blk.new w cs T
/-- A task at block b, its state's cell at block s. -/
structure TaskAt (w : World) (b s : Nat) (num : Int) (f : Value) (st : Int) (v : Int) (e : Value) : Prop where
  blk : Blk w b #[.int .i64 num, .pointer none, f, .pointer (some ⟨s, 0, none⟩), .int .i64 v, e] 29
  cell : CellAt w s st
theorem TaskAt.ne {w : World} {b s : Nat} {num : Int} {f : Value} {st v : Int} {e : Value} (h : TaskAt w b s num f st v e) : b ≠ s := by
  rintro rfl
  have := h.blk.inj h.cell
  simp at this
theorem TaskAt.chg {w w' : World} {S : Nat → Prop} {b s : Nat} {num : Int} {f : Value} {st v : Int} {e : Value} (h : TaskAt w b s num f st v e) (hc : Chg S w w') (hb : ¬ S b) (hs : ¬ S s) : TaskAt w' b s num f st v e :=
  ⟨hc.blk h.blk hb, hc.blk h.cell hs⟩
theorem task_new (w : World) (num : Int) (F : Nat) (cap : Array Value) : Calls Tryd.prog 14 #[.int .i64 num, .pointer none, .func (.func F) #[] cap] w fun e w' =>
    e = .returned (.pointer (some ⟨w.heap.size + 1, 0, none⟩)) ∧ TaskAt w' (w.heap.size + 1) w.heap.size num (.func (.func F) #[] cap) 0 0 .nilIface ∧ Same w w' := by
  have hnn : ∀ w, (binOp .eql 24 (.func (.func F) #[] cap) .nilFunc).run Tryd.prog w = .ok (.bool false) w := fun w => by kernel_rfl
  go_enter Tryd.func14, Tryd.ntmps14
  go_wp2_with (first | (go_at_call 68; refine (cell_new _ _).mono ?_; rintro e w' ⟨rfl, rfl⟩))
  go_ret
  refine ⟨rfl, ⟨?_, ?_⟩, ?_⟩
  · exact Blk.new' (by simp) _ _
  · exact (CellAt.new w 0).alloc _
  · exact ((Chg.refl _ _).alloc _).alloc _
theorem task_new_nil (w : World) (num : Int) : Calls Tryd.prog 14 #[.int .i64 num, .pointer none, .nilFunc] w fun e w' => e = .returned (.pointer none) ∧ w = w' := by
  have hnn : ∀ w, (binOp .eql 24 .nilFunc .nilFunc).run Tryd.prog w = .ok (.bool true) w := fun w => by kernel_rfl
  go_enter Tryd.func14, Tryd.ntmps14
  go_wp2
  go_ret
  exact ⟨rfl, rfl⟩
theorem task_number (w : World) (b s : Nat) (num : Int) (f : Value) (st v : Int) (x : Value) (h : TaskAt w b s num f st v x) : Calls Tryd.prog 12 #[.pointer (some ⟨b, 0, none⟩)] w fun e w' => e = .returned (.int .i64 num) ∧ w = w' := by
  have c0 := h.blk.cellAt 0 (v := .int .i64 num) rfl
  go_enter Tryd.func12, Tryd.ntmps12
  go_wp2_with (first | (go_at_call 59; refine (task_made _ _ _ _ h.blk rfl).mono ?_; rintro e w' ⟨rfl, rfl⟩))
  go_ret
  exact ⟨rfl, rfl⟩
theorem task_state (w : World) (b s : Nat) (num : Int) (f : Value) (st v : Int) (x : Value) (h : TaskAt w b s num f st v x) : Calls Tryd.prog 11 #[.pointer (some ⟨b, 0, none⟩), .pointer none] w fun e w' => e = .returned (.int .i64 st) ∧ w = w' := by
  have c3 := h.blk.cellAt 3 (v := .pointer (some ⟨s, 0, none⟩)) rfl
  go_enter Tryd.func11, Tryd.ntmps11
  go_wp2_with (first | (go_at_call 59; refine (task_made _ _ _ _ h.blk rfl).mono ?_; rintro e w' ⟨rfl, rfl⟩) | (go_at_call 60; refine (cell_load_at _ _ _ h.cell).mono ?_; rintro e w' ⟨rfl, rfl⟩))
  go_ret
  exact ⟨rfl, rfl⟩
theorem task_wait (w : World) (b s : Nat) (num : Int) (f : Value) (st v : Int) (x : Value) (h : TaskAt w b s num f st v x) (hst : 2 ≤ st) : Calls Tryd.prog 8 #[.pointer (some ⟨b, 0, none⟩), .pointer none] w fun e w' => e = .returned (.tuple #[.int .i64 v, x]) ∧ Same w w' := by
  have c3 := h.blk.cellAt 3 (v := .pointer (some ⟨s, 0, none⟩)) rfl
  have c4 := h.blk.cellAt 4 (v := .int .i64 v) rfl
  have c5 := h.blk.cellAt 5 (v := x) rfl
  go_enter Tryd.func8, Tryd.ntmps8
  go_wp2_with (first | (go_at_call 59; refine (task_made _ _ _ _ h.blk rfl).mono ?_; rintro e w' ⟨rfl, rfl⟩) | (go_at_call 60; refine (cell_load_at _ _ _ h.cell).mono ?_; rintro e w' ⟨rfl, rfl⟩))
  refine wp_loop_rounds 1 ?_; rw [rounds_succ]
  go_wp2_with fail
  go_quiet (fail)
  go_wp2_with fail
  go_ret2
  exact ⟨rfl, (Chg.refl _ _).drewN _⟩
end Go.Proofs.YtgdjbfcdkibdbaaDoor
