/- What JoinNone begins with: at, a list of new futures. Conditions: none. -/
import Derived.Test.YtgljjgmfhememaaGreatDoorWorks16
import Derived.OwnWalk
namespace Go.Proofs.YtgljjgmfhememaaGreatDoor
open Go Go.RowKit Go.Sort
set_option maxRecDepth 100000
set_option maxHeartbeats 2000000
theorem at16 (m : Int) (m0 : -9223372036854775808 ≤ m) (m1 : m ≤ 9223372036854775807) :
    ∃ n : Nat, n ≤ 5 ∧ ∀ w, Calls Tryz.prog 9 #[.int .i64 m, .int .i64 6] w fun e w' => e = .returned (.int .i64 n) ∧ w = w' := by
  have h1 := Int.tmod_lt_of_pos m (show (0:Int) < 6 by decide)
  have h2 := Int.lt_tmod_of_pos m (show (0:Int) < 6 by decide)
  by_cases hn : m.tmod 6 < 0
  · obtain ⟨n, he⟩ : ∃ n : Nat, (n : Int) = m.tmod 6 + 6 := ⟨(m.tmod 6 + 6).toNat, by omega⟩
    refine ⟨n, by omega, fun w => ?_⟩
    have hw : wrap64 (m.tmod 6 + 6) = m.tmod 6 + 6 := by unfold wrap64; omega
    have HE := Lib.hid he
    clear he
    go_enter Tryz.func9, Tryz.ntmps9
    go_wp2_with fail
    go_ret
    exact ⟨by rw [HE.out]; rfl, rfl⟩
  · obtain ⟨n, he⟩ : ∃ n : Nat, (n : Int) = m.tmod 6 := ⟨(m.tmod 6).toNat, by omega⟩
    refine ⟨n, by omega, fun w => ?_⟩
    have HE := Lib.hid he
    clear he
    go_enter Tryz.func9, Tryz.ntmps9
    go_wp2_with fail
    go_ret
    exact ⟨by rw [HE.out]; rfl, rfl⟩
/-- What hangs on each, named. -/
theorem more_choice {w : World} {rs : List FR} {fss : Nat → List (Nat × Array Value)} {Cl : Nat → Nat → Array Value → World → Prop} {n : Nat} (hn : ∀ j, (fss j).length ≤ n) (h : ∀ j (hj : j < rs.length), More (fss j) Cl w rs[j] j) :
    ∃ fss' : Nat → List (Nat × Array Value), (∀ j, (fss' j).length ≤ n + 1) ∧ ∀ j (hj : j < rs.length), FutF w rs[j] (fss' j) := by
  refine ⟨fun j => if hj : j < rs.length then fss j ++ [((h j hj).choose, (h j hj).choose_spec.choose)] else [], fun j => ?_, fun j hj => ?_⟩
  · by_cases hj : j < rs.length
    · simp only [hj, dif_pos, List.length_append, List.length_cons, List.length_nil]
      have := hn j
      omega
    · simp [hj]
  · simp only [hj, dif_pos]
    exact (h j hj).choose_spec.choose_spec.1
theorem ownsRow_same {w w' : World} {base : Nat} {e : TypeId} {size n : Nat} {v : Value} {xs : List Value} (h : w.ownsRow base e size v n xs) (s : Same w w') : w'.ownsRow base e size v n xs :=
  h.kept (row := none) ⟨s.os, s.tape, s.output, s.size, fun k hk _ => s.old k hk (fun x => x)⟩ (by cases hv : v.ownBlock <;> simp)
end Go.Proofs.YtgljjgmfhememaaGreatDoor
