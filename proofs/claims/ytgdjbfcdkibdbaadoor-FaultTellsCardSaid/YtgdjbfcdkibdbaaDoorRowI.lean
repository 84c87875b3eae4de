/- A row's argument that is a slice of ints, as the walks want it. Conditions: none. -/
import Derived.Test.YtgdjbfcdkibdbaaDoorInts
import Derived.Test.YtgdjbfcdkibdbaaDoorTextA
import Derived.Test.YtgdjbfcdkibdbaaDoorRow
import Derived.ChangeSlices
import Derived.Carry
namespace Go.Proofs.YtgdjbfcdkibdbaaDoor
open Go Go.RowKit Go.ChangeShapes Go.WideShapes Go.ChangeAt
set_option maxRecDepth 100000
set_option maxHeartbeats 2000000
theorem laidOut : laidOutB Tryd.prog = true := by kernel_rfl
theorem cells_int : Tryd.prog.cellsOf 3 = 1 := by kernel_rfl
theorem bytes_int : Tryd.prog.bytesOf 3 = 8 := by kernel_rfl
theorem f64_of_wf {n : Int} (h : (Lit.int .i64 n).wf = true) : F64 n := by
  simp only [Lit.wf, Bool.and_eq_true, decide_eq_true_eq] at h
  have e1 : IntKind.i64.min = -9223372036854775808 := by rfl
  have e2 : IntKind.i64.max = 9223372036854775807 := by rfl
  rw [e1, e2] at h
  exact h
theorem ints_of_trod {H : Type} {enc : TypeId × Value → H} {W : World} {fuel : Nat} {a0 : Option Addr} {len cap : Nat} {d : DataW H} {p : List MemPlace}
    (hf : DataW.trod enc Tryd.prog W 0 (fun _ => true) true fuel 41 [.slice a0 len cap] = some (d, p)) (hsz : ∀ x ∈ DataW.weights Tryd.prog 41 d, x ≤ reachBytes) :
    ∃ zs : List Int, Ints W (.slice a0 len cap) zs ∧ ∀ n ∈ zs, F64 n := by
  rcases open_ints Tryd.underlying41 Tryd.underlying3 cells_int hf with ⟨hcs, hx⟩ | ⟨a, len', cap', zs, hcs, _, hl, hm, hz, hx, hcell, hwz⟩
  · simp at hcs
    obtain ⟨rfl, rfl, rfl⟩ := hcs
    exact ⟨[], ⟨by simp, .inl ⟨none, 0, rfl, rfl⟩⟩, by simp⟩
  · simp at hcs
    obtain ⟨rfl, rfl, rfl⟩ := hcs
    simp only [Prod.mk.injEq] at hx
    obtain ⟨rfl, rfl⟩ := hx
    simp only [if_true] at hz
    have hw := hsz (((lits (H := H) .i64 (zs.take len)).length + (lits (H := H) .i64 (zs.drop len)).length) * 8) (by simp [DataW.weights, Tryd.underlying41, bytes_int])
    have hlen : zs.length ≤ 4611686018427387904 := by
      simp [lits, reachBytes] at hw
      omega
    by_cases hl0 : len = 0
    · subst hl0
      exact ⟨[], ⟨by simp, .inl ⟨some a, cap, rfl, rfl⟩⟩, by simp⟩
    · obtain ⟨b, off, spot⟩ := a
      have hspot : spot = none := by simpa [Addr.add] using World.cell?_spot (hcell 0 (by omega))
      subst hspot
      have htl : (zs.take len).length = len := by rw [List.length_take]; omega
      refine ⟨zs.take len, ⟨by omega, .inr ⟨b, off, cap, by rw [htl], by omega, fun j hj => ?_⟩⟩, fun n hn => f64_of_wf (hwz n (List.mem_of_mem_take hn))⟩
      have := hcell j (by omega)
      rw [add_plain] at this
      rw [this]
      simp [List.getD_eq_getElem?_getD, List.getElem?_take_of_lt (show j < len by omega)]
end Go.Proofs.YtgdjbfcdkibdbaaDoor
