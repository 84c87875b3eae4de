/- Package task with a nil thread, one goroutine. Conditions: none. -/
import Derived.Test.YtgdjbfcdkibdbaaDoorCatch
import Derived.Deep.RegionHeld3
import Derived.Deep.QuietTactic
import Derived.BigQuiet
namespace Go.Proofs.YtgdjbfcdkibdbaaDoor
open Go Go.RowKit
set_option maxRecDepth 100000
set_option maxHeartbeats 1000000
theorem task_made_nil (w : World) : Calls Tryd.prog 59 #[.pointer none] w fun e w' => e = .returned (.bool false) ∧ w = w' := by
  go_enter Tryd.func59, Tryd.ntmps59
  go_wp2
  go_ret
  exact ⟨rfl, rfl⟩
theorem task_made_no (w : World) (b : Nat) (cs : Array Value) (hb : Blk w b cs 29) (h3 : cs[3]? = some (.pointer none)) : Calls Tryd.prog 59 #[.pointer (some ⟨b, 0, none⟩)] w fun e w' => e = .returned (.bool false) ∧ w = w' := by
  have c3 := hb.cellAt 3 h3
  clear hb h3
  go_enter Tryd.func59, Tryd.ntmps59
  go_wp2
  go_ret
  exact ⟨rfl, rfl⟩
theorem task_made (w : World) (b s : Nat) (cs : Array Value) (hb : Blk w b cs 29) (h3 : cs[3]? = some (.pointer (some ⟨s, 0, none⟩))) : Calls Tryd.prog 59 #[.pointer (some ⟨b, 0, none⟩)] w fun e w' => e = .returned (.bool true) ∧ w = w' := by
  have c3 := hb.cellAt 3 h3
  clear hb h3
  go_enter Tryd.func59, Tryd.ntmps59
  go_wp2
  go_ret
  exact ⟨rfl, rfl⟩
/-- A task that is none: nil, or made by no New. -/
def NoTask (w : World) (p : Option Addr) : Prop := p = none ∨ ∃ b cs, p = some ⟨b, 0, none⟩ ∧ Blk w b cs 29 ∧ cs[3]? = some (.pointer none)
theorem task_made_none (w : World) (p : Option Addr) (h : NoTask w p) : Calls Tryd.prog 59 #[.pointer p] w fun e w' => e = .returned (.bool false) ∧ w = w' := by
  rcases h with rfl | ⟨b, cs, rfl, hb, h3⟩
  · exact task_made_nil w
  · exact task_made_no w b cs hb h3
theorem task_none_wait (w : World) (p : Option Addr) (h : NoTask w p) : Calls Tryd.prog 8 #[.pointer p, .pointer none] w fun e w' => e = .returned (.tuple #[.int .i64 0, .iface 35 (.int .i64 2)]) ∧ w = w' := by
  go_enter Tryd.func8, Tryd.ntmps8
  go_wp2_with (first | (go_at_call 59; refine (task_made_none _ _ h).mono ?_; rintro e w' ⟨rfl, rfl⟩))
  go_ret2
  exact ⟨rfl, rfl⟩
theorem task_none_cancel (w : World) (p : Option Addr) (r : Int) (h : NoTask w p) : Calls Tryd.prog 10 #[.pointer p, .pointer none, .int .i64 r] w fun e w' => e = .returned (.bool false) ∧ w = w' := by
  go_enter Tryd.func10, Tryd.ntmps10
  go_wp2_with (first | (go_at_call 59; refine (task_made_none _ _ h).mono ?_; rintro e w' ⟨rfl, rfl⟩))
  go_ret
  exact ⟨rfl, rfl⟩
theorem task_none_state (w : World) (p : Option Addr) (h : NoTask w p) : Calls Tryd.prog 11 #[.pointer p, .pointer none] w fun e w' => e = .returned (.int .i64 0) ∧ w = w' := by
  go_enter Tryd.func11, Tryd.ntmps11
  go_wp2_with (first | (go_at_call 59; refine (task_made_none _ _ h).mono ?_; rintro e w' ⟨rfl, rfl⟩))
  go_ret
  exact ⟨rfl, rfl⟩
theorem task_none_number (w : World) (p : Option Addr) (h : NoTask w p) : Calls Tryd.prog 12 #[.pointer p] w fun e w' => e = .returned (.int .i64 0) ∧ w = w' := by
  go_enter Tryd.func12, Tryd.ntmps12
  go_wp2_with (first | (go_at_call 59; refine (task_made_none _ _ h).mono ?_; rintro e w' ⟨rfl, rfl⟩))
  go_ret
  exact ⟨rfl, rfl⟩
theorem NoTask.same {w w' : World} {p : Option Addr} (h : NoTask w p) (hs : Same w w') : NoTask w' p := by
  rcases h with rfl | ⟨b, cs, rfl, hb, h3⟩
  · exact .inl rfl
  · exact .inr ⟨b, cs, rfl, hs.blk hb (fun x => x), h3⟩
theorem task_none_run (w : World) (p : Option Addr) (h : NoTask w p) : Calls Tryd.prog 9 #[.pointer p, .pointer none] w fun e w' => e = .returned (.bool false) ∧ Same w w' := by
  have h2 : NoTask ((w.alloc (.cells #[.pointer p] 22)).alloc (.cells #[.pointer none] 38)) p := h.same (((Chg.refl _ _).alloc _).alloc _)
  go_enter Tryd.func9, Tryd.ntmps9
  go_wp2_with fail
  go_quiet ((go_at_call 59; exact quiet_left (task_made_none _ _ (h2.same ((Chg.refl _ _).drewN _)))))
  go_wp2_with fail
  go_ret
  exact ⟨rfl, ((((Chg.refl _ _).alloc _).alloc _)).drewN _⟩
end Go.Proofs.YtgdjbfcdkibdbaaDoor
