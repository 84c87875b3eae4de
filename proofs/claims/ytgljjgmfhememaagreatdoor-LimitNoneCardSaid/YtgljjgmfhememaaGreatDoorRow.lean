/- What the rows' proofs share. Conditions: none. -/
import Derived.Test.YtgljjgmfhememaaGreatDoorAsD
import Derived.Test.YtgljjgmfhememaaGreatDoorRows
import Derived.Test.YtgljjgmfhememaaGreatDoorCards
import Derived.Test.YtgljjgmfhememaaGreatDoorTie
import Derived.ProofKit
import Derived.LaidHandle
import Derived.LaidMore
import Derived.OpenShut
import Derived.Stop.Joined
import Derived.JoinedOf
import Derived.Lay
import Derived.SevenTiedAt
namespace Go.Proofs.YtgljjgmfhememaaGreatDoor
open Go Go.RowKit Go.ChangeShapes Go.WideShapes Go.ChangeAt
set_option maxRecDepth 100000
set_option maxHeartbeats 2000000

theorem own_knob : ownKnob Tryz.prog.godebug = none := by kernel_rfl
theorem gErr : Tryz.prog.globalNamed "errors.errorType" = some 0 := by kernel_rfl
theorem cutRt : (Tryz.prog.cutTypes.find? (·.1 == "internal/reflectlite.rtype")).map (·.2) = some 291 := by kernel_rfl
theorem oneErr : ((List.range 388).filter fun t => Tryz.prog.rowNamed t [101, 114, 114, 111, 114]) = [29] := by kernel_rfl
theorem ntypes : Tryz.prog.types.size = 388 := by kernel_rfl
/-- What the condition gives a walk. -/
theorem errType_of_handles {l : List (String × DataW Unit)} {W : World} (h : handlesMet Tryz.prog l W) (hm : ("errors.errorType", Rows.laid_errors_errorType) ∈ l) : ErrType W := by
  obtain ⟨name, u, ty, e1, e2, e3, e4, e5⟩ := h _ hm
  have en : name = [101, 114, 114, 111, 114] := (Option.some.inj e1).symm
  subst en
  obtain rfl := Option.some.inj (cutRt.symm.trans e2)
  have hm : ty ∈ (List.range 388).filter fun t => Tryz.prog.rowNamed t [101, 114, 114, 111, 114] := List.mem_filter.2 ⟨List.mem_range.2 (by rw [← ntypes]; exact e3), e4⟩
  rw [oneErr] at hm
  obtain rfl := List.mem_singleton.1 hm
  have hh : typeHandle Tryz.prog 29 = hd 29 := by kernel_rfl
  rw [hh] at e5
  have := World.var?_cell gErr e5 0
  unfold ErrType
  simpa using this
theorem errType_lt {W : World} (h : ErrType W) : 0 < W.heap.size := World.block_lt_of_cell? W ⟨0, 0, none⟩ h

end Go.Proofs.YtgljjgmfhememaaGreatDoor
