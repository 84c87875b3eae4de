/- join.none: is one of them no future? Conditions: none. -/
import Derived.Test.YtgljjgmfhememaaGreatDoorListB
import Derived.LoopTactic
import Derived.Sort.WalkA
namespace Go.Proofs.YtgljjgmfhememaaGreatDoor
open Go Go.RowKit Go.Sort
set_option maxRecDepth 100000
set_option maxHeartbeats 1000000
/-- A slice that reads as these pointers. -/
def Ptrs (w : World) (l : Value) (ps : List (Option Addr)) : Prop :=
  ps.length ≤ 1000000 ∧ ((∃ p cap, l = .slice p 0 cap ∧ ps = []) ∨ ∃ b off cap, l = .slice (some ⟨b, off, none⟩) ps.length cap ∧ ∀ j (hj : j < ps.length), w.cell? ⟨b, off + j, none⟩ = some (.pointer ps[j]))
def MadeP (w : World) (p : Option Addr) : Prop := ∃ b s cs, p = some ⟨b, 0, none⟩ ∧ Blk w b cs 31 ∧ cs[0]? = some (.pointer (some ⟨s, 0, none⟩))
theorem Ptrs.slice {w : World} {l : Value} {ps : List (Option Addr)} (h : Ptrs w l ps) : ∃ p cap, l = .slice p ps.length cap := by
  obtain ⟨_, ⟨p, cap, rfl, rfl⟩ | ⟨b, off, cap, rfl, _⟩⟩ := h
  · exact ⟨p, cap, rfl⟩
  · exact ⟨_, _, rfl⟩
theorem Ptrs.get {w : World} {p : Option Addr} {n cap : Nat} {ps : List (Option Addr)} (h : Ptrs w (.slice p n cap) ps) {j : Nat} (hj : j < ps.length) : ∃ b off, p = some ⟨b, off, none⟩ ∧ w.cell? ⟨b, off + j, none⟩ = some (.pointer ps[j]) := by
  obtain ⟨_, ⟨p, cap, _, rfl⟩ | ⟨b, off, cap, e, hc⟩⟩ := h
  · simp at hj
  · cases e
    exact ⟨b, off, rfl, hc j hj⟩
theorem made_then_nil (w : World) (p : Option Addr) (h : MadeP w p) : Calls Tryz.prog 69 #[.pointer p, .pointer none, .nilFunc] w fun e w' => e = .returned (.int .i64 1) ∧ w = w' := by
  obtain ⟨b, s, cs, rfl, hb, h3⟩ := h
  have hnn : ∀ w, (binOp .eql 131 .nilFunc .nilFunc).run Tryz.prog w = .ok (.bool true) w := fun w => by kernel_rfl
  go_enter Tryz.func69, Tryz.ntmps69
  go_wp2_with (first | (go_at_call 65; refine (fut_made _ _ _ _ hb h3).mono ?_; rintro e w' ⟨rfl, rfl⟩))
  go_ret
  exact ⟨rfl, rfl⟩
theorem join_none_no (w : World) (l : Value) (ps : List (Option Addr)) (h : Ptrs w l ps) (hm : ∀ p ∈ ps, MadeP w p) : Calls Tryz.prog 54 #[l] w fun e w' => e = .returned (.bool false) ∧ w = w' := by
  obtain ⟨p, cap, rfl⟩ := h.slice
  have hlen := h.1
  have H := Lib.hid h
  have HM := Lib.hid hm
  clear h hm
  go_enter Tryz.func54, Tryz.ntmps54
  go_wp2_with fail
  go_loopw [7] (fun i wr => ∃ k : Nat, k ≤ ps.length ∧ i = .int .i64 k ∧ wr = w) (fun i _ => ps.length - (intOf i).toNat)
  case atStart => exact ⟨0, by omega, rfl, rfl⟩
  case round =>
    obtain ⟨k, hk, rfl, rfl⟩ := hrel
    by_cases hkn : k < ps.length
    · obtain ⟨b, off, rfl, hc⟩ := H.out.get hkn
      have hp := HM.out _ (List.getElem_mem hkn)
      generalize ps[k] = q at *
      go_wp2_with fail
      refine (made_then_nil _ _ hp).mono ?_
      rintro e _ ⟨rfl, rfl⟩
      go_wp2_with fail
      go_roundw
      case rel => first | exact ⟨k + 1, by omega, by simp, rfl⟩ | exact ⟨k + 1, by omega, by simp, trivial⟩ | exact ⟨k + 1, by omega, by simp⟩
      case measure => simp [intOf]; omega
    · go_wp2_with fail
      go_ret
      exact ⟨rfl, rfl⟩
theorem join_none_yes (w : World) (l : Value) (ps : List (Option Addr)) (h : Ptrs w l ps) (m : Nat) (hml : m < ps.length) (hbad : NoFut w ps[m]) (hm : ∀ j (hj : j < m), MadeP w (ps[j]'(by omega))) : Calls Tryz.prog 54 #[l] w fun e w' => e = .returned (.bool true) ∧ w = w' := by
  obtain ⟨p, cap, rfl⟩ := h.slice
  have hlen := h.1
  have H := Lib.hid h
  have HM := Lib.hid hm
  have HB := Lib.hid hbad
  clear h hm hbad
  go_enter Tryz.func54, Tryz.ntmps54
  go_wp2_with fail
  go_loopw [7] (fun i wr => ∃ k : Nat, k ≤ m ∧ i = .int .i64 k ∧ wr = w) (fun i _ => m - (intOf i).toNat)
  case atStart => exact ⟨0, by omega, rfl, rfl⟩
  case round =>
    obtain ⟨k, hk, rfl, rfl⟩ := hrel
    have hkl : k < ps.length := by omega
    obtain ⟨b, off, rfl, hc⟩ := H.out.get hkl
    by_cases hkn : k < m
    · have hp := HM.out k hkn
      generalize ps[k] = q at *
      go_wp2_with fail
      refine (made_then_nil _ _ hp).mono ?_
      rintro e _ ⟨rfl, rfl⟩
      go_wp2_with fail
      go_roundw
      case rel => first | exact ⟨k + 1, by omega, by simp, rfl⟩ | exact ⟨k + 1, by omega, by simp, trivial⟩ | exact ⟨k + 1, by omega, by simp⟩
      case measure => simp [intOf]; omega
    · obtain rfl : k = m := by omega
      have hp := HB.out
      generalize ps[k] = q at *
      go_wp2_with fail
      refine (fut_none_then _ _ _ hp).mono ?_
      rintro e _ ⟨rfl, rfl⟩
      go_wp2_with fail
      go_ret
      exact ⟨rfl, rfl⟩
end Go.Proofs.YtgljjgmfhememaaGreatDoor
