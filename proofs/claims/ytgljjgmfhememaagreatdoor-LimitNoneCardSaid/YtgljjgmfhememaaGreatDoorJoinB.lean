/- Joints that are none, or bare; a future that is still open. Conditions: none. -/
import Derived.Test.YtgljjgmfhememaaGreatDoorJoinA
namespace Go.Proofs.YtgljjgmfhememaaGreatDoor
open Go Go.RowKit
set_option maxRecDepth 100000
set_option maxHeartbeats 1000000
theorem joint_future_none (w : World) : Calls Tryz.prog 15 #[.pointer none] w fun e w' => e = .returned (.pointer none) ∧ w = w' := by
  go_enter Tryz.func15, Tryz.ntmps15
  go_wp2_with fail
  go_ret
  exact ⟨rfl, rfl⟩
theorem joint_future (w : World) (b : Nat) (g left ends : Value) (p : Option Addr) (hb : Blk w b #[g, left, ends] 41) (hg : g = .pointer p) : Calls Tryz.prog 15 #[.pointer (some ⟨b, 0, none⟩)] w fun e w' => e = .returned g ∧ w = w' := by
  subst hg
  have c0 := hb.cellAt 0 (v := .pointer p) rfl
  go_enter Tryz.func15, Tryz.ntmps15
  go_wp2_with fail
  go_ret
  exact ⟨rfl, rfl⟩
theorem joint_values_none (w : World) : Calls Tryz.prog 14 #[.pointer none, .pointer none] w fun e w' => e = .returned (.tuple #[.slice none 0 0, .iface 33 (.int .i64 2)]) ∧ w = w' := by
  go_enter Tryz.func14, Tryz.ntmps14
  go_wp2_with fail
  go_ret2
  exact ⟨rfl, rfl⟩
theorem joint_values_bare (w : World) (b : Nat) (left ends : Value) (hb : Blk w b #[.pointer none, left, ends] 41) : Calls Tryz.prog 14 #[.pointer (some ⟨b, 0, none⟩), .pointer none] w fun e w' => e = .returned (.tuple #[.slice none 0 0, .iface 33 (.int .i64 2)]) ∧ w = w' := by
  have c0 := hb.cellAt 0 (v := .pointer none) rfl
  go_enter Tryz.func14, Tryz.ntmps14
  go_wp2_with fail
  go_ret2
  exact ⟨rfl, rfl⟩
variable {w : World} {b s l lb hb pb : Nat} {last head v : Int} {pl : Array Value} {x : Value}
theorem fut_peek_open (h : FutAt w b s l lb hb pb 0 last head pl v x) : Calls Tryz.prog 18 #[.pointer (some ⟨b, 0, none⟩), .pointer none] w fun e w' => e = .returned (.tuple #[.int .i64 0, .nilIface, .bool false]) ∧ w = w' := by
  have c0 := h.blk.cellAt 0 (v := .pointer (some ⟨s, 0, none⟩)) rfl
  go_enter Tryz.func18, Tryz.ntmps18
  go_wp2_with (first | (go_at_call 65; refine (fut_made _ _ _ _ h.blk rfl).mono ?_; rintro e w' ⟨rfl, rfl⟩) | (go_at_call 66; refine (cell_load_at _ _ _ h.cell).mono ?_; rintro e w' ⟨rfl, rfl⟩))
  go_ret3
  exact ⟨rfl, rfl⟩
end Go.Proofs.YtgljjgmfhememaaGreatDoor
