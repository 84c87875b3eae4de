/- math/bits' counts at the sizes that a memo may have; memo.power and the reference's Power. Conditions: none. -/
import Derived.Test.YtgdjbfcdkibdbaaGreatDoorCell
import Derived.Lib.Hide
import Derived.LoopTactic
namespace Go.Proofs.YtgdjbfcdkibdbaaGreatDoor
open Go Go.RowKit
set_option maxRecDepth 100000
def pc1 (x : Int) : Int := IntKind.u64.wrap (bits BinOp.and IntKind.u64 (x / 2) 6148914691236517205 + bits BinOp.and IntKind.u64 x 6148914691236517205)
def pc2 (y : Int) : Int := IntKind.u64.wrap (bits BinOp.and IntKind.u64 (y / 4) 3689348814741910323 + bits BinOp.and IntKind.u64 y 3689348814741910323)
def pc3 (y : Int) : Int := bits BinOp.and IntKind.u64 (IntKind.u64.wrap (y / 16 + y)) 1085102592571150095
def pc4 (y : Int) : Int := IntKind.u64.wrap (y + y / 256)
def pc5 (y : Int) : Int := IntKind.u64.wrap (y + y / 65536)
def pc6 (y : Int) : Int := IntKind.u64.wrap (y + y / 4294967296)
def pc7 (y : Int) : Int := bits BinOp.and IntKind.i64 (wrap64 y) 127
def pcount (x : Int) : Int := pc7 (pc6 (pc5 (pc4 (pc3 (pc2 (pc1 x))))))
def powers : List Int := [1, 2, 4, 8, 16, 32, 64, 128, 256, 512, 1024, 2048, 4096]
theorem pcount_all : ((List.range 4096).all fun n => (pcount ((n : Int) + 1) == 1) == powers.contains ((n : Int) + 1)) = true := by kernel_rfl
theorem pcount_one {x : Int} (h1 : 1 ≤ x) (h2 : x ≤ 4096) : pcount x = 1 ↔ x ∈ powers := by
  have h := List.all_eq_true.1 pcount_all (x - 1).toNat (List.mem_range.2 (by omega))
  have e : (((x - 1).toNat : Nat) : Int) + 1 = x := by omega
  rw [e] at h
  have h' : (pcount x == 1) = powers.contains x := by simpa using h
  constructor
  · intro hp
    rw [hp] at h'
    simpa using h'.symm
  · intro hm
    have : powers.contains x = true := by simpa using hm
    rw [this] at h'
    simpa using h'
theorem ones64 (x : Int) (h1 : 1 ≤ x) (h2 : x ≤ 4096) (w : World) : Calls Tryz.prog 185 #[.int .u64 x] w fun e w' => e = .returned (.int .i64 (pcount x)) ∧ w = w' := by
  go_enter Tryz.func185, Tryz.ntmps185
  go_wp2
  go_ret
  exact ⟨rfl, rfl⟩
theorem ones (x : Int) (h1 : 1 ≤ x) (h2 : x ≤ 4096) (w : World) : Calls Tryz.prog 136 #[.int .u64 x] w fun e w' => e = .returned (.int .i64 (pcount x)) ∧ w = w' := by
  go_enter Tryz.func136, Tryz.ntmps136
  go_wp2_with fail
  refine (ones64 x h1 h2 w).mono ?_
  rintro e w' ⟨rfl, rfl⟩
  go_wp2_with fail
  go_ret
  exact ⟨rfl, rfl⟩
theorem power_yes (s : Int) (h : s ∈ powers) (w : World) : Calls Tryz.prog 63 #[.int .i64 s] w fun e w' => e = .returned (.bool true) ∧ w = w' := by
  have hr : 1 ≤ s ∧ s ≤ 4096 := by
    simp [powers] at h
    omega
  obtain ⟨h1, h2⟩ := hr
  have hp := (pcount_one h1 h2).2 h
  have ho := ones s h1 h2
  rw [hp] at ho
  clear h hp
  go_enter Tryz.func63, Tryz.ntmps63
  go_wp2_with fail
  refine (ho w).mono ?_
  rintro e w' ⟨rfl, rfl⟩
  clear ho
  go_wp2_with fail
  go_ret
  exact ⟨rfl, rfl⟩
theorem power_no (s : Int) (h : ¬ s ∈ powers) (w : World) : Calls Tryz.prog 63 #[.int .i64 s] w fun e w' => e = .returned (.bool false) ∧ w = w' := by
  by_cases h1 : 1 ≤ s
  · by_cases h2 : s ≤ 4096
    · have hp : ¬ pcount s = 1 := fun e => h ((pcount_one h1 h2).1 e)
      have ho := ones s h1 h2
      clear h
      generalize pcount s = q at *
      go_enter Tryz.func63, Tryz.ntmps63
      go_wp2_with fail
      refine (ho w).mono ?_
      rintro e w' ⟨rfl, rfl⟩
      clear ho
      have hq : (q == 1) = false := by simpa using hp
      go_wp2_with fail
      go_ret
      exact ⟨rfl, rfl⟩
    · clear h
      go_enter Tryz.func63, Tryz.ntmps63
      go_wp2_with fail
      go_ret
      exact ⟨rfl, rfl⟩
  · clear h
    go_enter Tryz.func63, Tryz.ntmps63
    go_wp2_with fail
    go_ret
    exact ⟨rfl, rfl⟩
end Go.Proofs.YtgdjbfcdkibdbaaGreatDoor
