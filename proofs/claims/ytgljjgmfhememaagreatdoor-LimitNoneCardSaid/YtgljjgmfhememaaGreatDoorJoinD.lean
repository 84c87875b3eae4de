/- join.All, Any, Quorum where they refuse. Conditions: none. -/
import Derived.Test.YtgljjgmfhememaaGreatDoorJoinC
namespace Go.Proofs.YtgljjgmfhememaaGreatDoor
open Go Go.RowKit Go.Sort
set_option maxRecDepth 100000
set_option maxHeartbeats 1000000
/-- One of them is no future. -/
def OneBad (w : World) (ps : List (Option Addr)) : Prop := ∃ (m : Nat) (hm : m < ps.length), NoFut w ps[m] ∧ ∀ j (hj : j < m), MadeP w (ps[j]'(by omega))
theorem join_none_bad (w : World) (l : Value) (ps : List (Option Addr)) (h : Ptrs w l ps) (hb : OneBad w ps) : Calls Tryz.prog 54 #[l] w fun e w' => e = .returned (.bool true) ∧ w = w' := by
  obtain ⟨m, hm, h1, h2⟩ := hb
  exact join_none_yes w l ps h m hm h1 h2
theorem all_bad (w : World) (l : Value) (ps : List (Option Addr)) (h : Ptrs w l ps) (hb : OneBad w ps) : Calls Tryz.prog 11 #[.pointer none, l] w fun e w' => e = .returned (.tuple #[.pointer none, .int .i64 2]) ∧ w = w' := by
  have hj := join_none_bad w l ps h hb
  obtain ⟨p, cap, rfl⟩ := h.slice
  clear h hb
  go_enter Tryz.func11, Tryz.ntmps11
  go_wp2_with fail
  refine hj.mono ?_
  rintro e _ ⟨rfl, rfl⟩
  go_wp2_with fail
  go_ret2
  exact ⟨rfl, rfl⟩
theorem any_bad (w : World) (l : Value) (ps : List (Option Addr)) (h : Ptrs w l ps) (hb : OneBad w ps) : Calls Tryz.prog 12 #[.pointer none, l] w fun e w' => e = .returned (.tuple #[.pointer none, .int .i64 2]) ∧ w = w' := by
  have hj := join_none_bad w l ps h hb
  obtain ⟨p, cap, rfl⟩ := h.slice
  clear h hb
  go_enter Tryz.func12, Tryz.ntmps12
  go_wp2_with fail
  refine hj.mono ?_
  rintro e _ ⟨rfl, rfl⟩
  go_wp2_with fail
  go_ret2
  exact ⟨rfl, rfl⟩
theorem quorum_bad (w : World) (k : Int) (l : Value) (ps : List (Option Addr)) (h : Ptrs w l ps) (hb : OneBad w ps) : Calls Tryz.prog 13 #[.pointer none, .int .i64 k, l] w fun e w' => e = .returned (.tuple #[.pointer none, .int .i64 2]) ∧ w = w' := by
  have hj := join_none_bad w l ps h hb
  obtain ⟨p, cap, rfl⟩ := h.slice
  clear h hb
  go_enter Tryz.func13, Tryz.ntmps13
  go_wp2_with fail
  refine hj.mono ?_
  rintro e _ ⟨rfl, rfl⟩
  go_wp2_with fail
  go_ret2
  exact ⟨rfl, rfl⟩
theorem any_empty (w : World) (l : Value) (h : Ptrs w l []) : Calls Tryz.prog 12 #[.pointer none, l] w fun e w' => e = .returned (.tuple #[.pointer none, .int .i64 25]) ∧ w = w' := by
  have hj := join_none_no w l [] h (fun _ h => by cases h)
  obtain ⟨p, cap, rfl⟩ := h.slice
  simp only [List.length_nil] at *
  clear h
  go_enter Tryz.func12, Tryz.ntmps12
  go_wp2_with fail
  refine hj.mono ?_
  rintro e _ ⟨rfl, rfl⟩
  go_wp2_with fail
  go_ret2
  exact ⟨rfl, rfl⟩
theorem quorum_arg (w : World) (k : Int) (l : Value) (ps : List (Option Addr)) (h : Ptrs w l ps) (hm : ∀ p ∈ ps, MadeP w p) (hk : k < 0 ∨ (ps.length : Int) < k) : Calls Tryz.prog 13 #[.pointer none, .int .i64 k, l] w fun e w' => e = .returned (.tuple #[.pointer none, .int .i64 1]) ∧ Same w w' := by
  have hj := join_none_no w l ps h hm
  obtain ⟨p, cap, rfl⟩ := h.slice
  clear h hm
  by_cases h0 : k < 0
  · go_enter Tryz.func13, Tryz.ntmps13
    go_wp2_with fail
    refine hj.mono ?_
    rintro e _ ⟨rfl, rfl⟩
    go_wp2_with fail
    go_ret2
    exact ⟨rfl, Chg.refl _ _⟩
  · have h1 : (ps.length : Int) < k := by omega
    go_enter Tryz.func13, Tryz.ntmps13
    go_wp2_with fail
    refine hj.mono ?_
    rintro e _ ⟨rfl, rfl⟩
    go_wp2_with fail
    go_ret2
    exact ⟨rfl, Chg.refl _ _⟩
end Go.Proofs.YtgljjgmfhememaaGreatDoor
