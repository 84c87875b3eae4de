/- Rows of ints, and treadlelaw12.sameInts of two that are one. Conditions: none. -/
import Derived.Test.YtgdjbfcdkibdbaaDoorMem
import Derived.Test.YtgdjbfcdkibdbaaDoorAsD
import Derived.LoopTactic
import Derived.WalkKit
import Derived.BigQuiet
namespace Go.Proofs.YtgdjbfcdkibdbaaDoor
open Go Go.RowKit
set_option maxRecDepth 100000
set_option maxHeartbeats 1000000
/-- A slice value that reads as these ints. -/
def Ints (w : World) (v : Value) (zs : List Int) : Prop :=
  zs.length ≤ 4611686018427387904 ∧ ((∃ p cap, v = .slice p 0 cap ∧ zs = []) ∨ ∃ b off cap, v = .slice (some ⟨b, off, none⟩) zs.length cap ∧ zs.length ≤ cap ∧ ∀ j, j < zs.length → w.cell? ⟨b, off + j, none⟩ = some (.int .i64 (zs.getD j 0)))
theorem Ints.same {w w' : World} {v : Value} {zs : List Int} (h : Ints w v zs) (hs : Same w w') : Ints w' v zs := by
  obtain ⟨hl, h⟩ := h
  refine ⟨hl, ?_⟩
  rcases h with h | ⟨b, off, cap, rfl, hcp, hc⟩
  · exact .inl h
  · exact .inr ⟨b, off, cap, rfl, hcp, fun j hj => (hs.cell (p := ⟨b, off + j, none⟩) (World.block_lt_of_cell? w ⟨b, off + j, none⟩ (hc j hj)) (fun x => x)).trans (hc j hj)⟩
theorem sameInts_nil (w : World) (u v : Value) (hu : Ints w u []) (hv : Ints w v []) : Calls Tryd.prog 20 #[u, v] w fun e w' => e = .returned (.bool true) ∧ Same w w' := by
  obtain ⟨_, ⟨p, cap, rfl, _⟩ | ⟨b, off, cap, rfl, _⟩⟩ := hu <;> obtain ⟨_, ⟨p', cap', rfl, _⟩ | ⟨b', off', cap', rfl, _⟩⟩ := hv
  all_goals
    go_enter Tryd.func20, Tryd.ntmps20
    go_wp2_with fail
    refine wp_loop_rounds 1 ?_; rw [rounds_succ]
    go_wp2_with fail
    go_ret
    exact ⟨rfl, Chg.refl _ _⟩
theorem sameInts_ok (w : World) (u v : Value) (zs : List Int) (hu : Ints w u zs) (hv : Ints w v zs) : Calls Tryd.prog 20 #[u, v] w fun e w' => e = .returned (.bool true) ∧ Same w w' := by
  by_cases hz : zs = []
  · subst hz; exact sameInts_nil w u v hu hv
  obtain ⟨hl, ⟨_, _, _, h⟩ | ⟨b, off, cap, rfl, _, hc⟩⟩ := hu
  · exact absurd h hz
  obtain ⟨_, ⟨_, _, _, h⟩ | ⟨b', off', cap', rfl, _, hc'⟩⟩ := hv
  · exact absurd h hz
  clear hz
  generalize hn : zs.length = n at *
  go_enter Tryd.func20, Tryd.ntmps20
  go_wp2
  go_loopw [5] (fun i wr => ∃ k : Nat, k ≤ n ∧ i = .int .i64 k ∧ Same w wr) (fun i _ => n - (intOf i).toNat)
  case atStart => exact ⟨0, by omega, rfl, Chg.refl _ _⟩
  case round =>
    rename World => wr
    obtain ⟨k, hk, rfl, hs⟩ := hrel
    by_cases hkn : k < n
    · have d1 := (hs.cell (p := ⟨b, off + k, none⟩) (World.block_lt_of_cell? w ⟨b, off + k, none⟩ (hc k hkn)) (fun x => x)).trans (hc k hkn)
      have d2 := (hs.cell (p := ⟨b', off' + k, none⟩) (World.block_lt_of_cell? w ⟨b', off' + k, none⟩ (hc' k hkn)) (fun x => x)).trans (hc' k hkn)
      clear hc hc'
      go_wp2_with fail
      go_quiet (fail)
      go_wp2_with fail
      go_roundw
      case rel => exact ⟨k + 1, by omega, by simp, hs.drewN _⟩
      case measure => simp [intOf]; omega
    · clear hc hc'
      go_wp2_with fail
      go_ret
      exact ⟨rfl, hs⟩
end Go.Proofs.YtgdjbfcdkibdbaaDoor
