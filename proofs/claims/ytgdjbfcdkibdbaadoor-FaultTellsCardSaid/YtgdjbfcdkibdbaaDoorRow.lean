/- What the rows' proofs share. Conditions: none. -/
import Derived.Test.YtgdjbfcdkibdbaaDoorAsD
import Derived.Test.YtgdjbfcdkibdbaaDoorRows
import Derived.Test.YtgdjbfcdkibdbaaDoorCards
import Derived.Test.YtgdjbfcdkibdbaaDoorTie
import Derived.ProofKit
import Derived.LaidHandle
import Derived.LaidMore
import Derived.OpenShut
import Derived.Stop.Joined
import Derived.JoinedOf
import Derived.Lay
import Derived.SevenTiedAt
namespace Go.Proofs.YtgdjbfcdkibdbaaDoor
open Go Go.RowKit Go.ChangeShapes Go.WideShapes Go.ChangeAt
set_option maxRecDepth 100000
set_option maxHeartbeats 2000000

theorem own_knob : ownKnob Tryd.prog.godebug = none := by kernel_rfl
theorem gErr : Tryd.prog.globalNamed "errors.errorType" = some 1 := by kernel_rfl
theorem cutRt : (Tryd.prog.cutTypes.find? (·.1 == "internal/reflectlite.rtype")).map (·.2) = some 185 := by kernel_rfl
theorem oneErr : ((List.range 284).filter fun t => Tryd.prog.rowNamed t [101, 114, 114, 111, 114]) = [27] := by kernel_rfl
theorem ntypes : Tryd.prog.types.size = 284 := by kernel_rfl
/-- What the condition gives a walk. -/
theorem errType_of_handles {l : List (String × DataW Unit)} {W : World} (h : handlesMet Tryd.prog l W) (hm : ("errors.errorType", Rows.laid_errors_errorType) ∈ l) : ErrType W := by
  obtain ⟨name, u, ty, e1, e2, e3, e4, e5⟩ := h _ hm
  have en : name = [101, 114, 114, 111, 114] := (Option.some.inj e1).symm
  subst en
  obtain rfl := Option.some.inj (cutRt.symm.trans e2)
  have hm : ty ∈ (List.range 284).filter fun t => Tryd.prog.rowNamed t [101, 114, 114, 111, 114] := List.mem_filter.2 ⟨List.mem_range.2 (by rw [← ntypes]; exact e3), e4⟩
  rw [oneErr] at hm
  obtain rfl := List.mem_singleton.1 hm
  have hh : typeHandle Tryd.prog 27 = hd 27 := by kernel_rfl
  rw [hh] at e5
  have := World.var?_cell gErr e5 0
  unfold ErrType
  simpa using this
theorem errType_lt {W : World} (h : ErrType W) : 1 < W.heap.size := World.block_lt_of_cell? W ⟨1, 0, none⟩ h

end Go.Proofs.YtgdjbfcdkibdbaaDoor
