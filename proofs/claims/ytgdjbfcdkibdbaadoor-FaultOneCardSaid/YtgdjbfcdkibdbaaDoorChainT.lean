/- errors.As over this chapter's errors, at the four types of failures: found where the bottom is of that type, and nowhere else. Conditions: errors.errorType holds what the program lays. -/
import Derived.Test.YtgdjbfcdkibdbaaDoorNumA
import Derived.Test.YtgdjbfcdkibdbaaDoorAsF
namespace Go.Proofs.YtgdjbfcdkibdbaaDoor
open Go Go.RowKit
set_option maxRecDepth 100000
theorem isFailed : IsT 55 55 := fun _ => by kernel_rfl
theorem noAt_Failed : NotT 59 55 := fun _ => by kernel_rfl
theorem noErrno_Failed : NotT 35 55 := fun _ => by kernel_rfl
theorem isCancelled : IsT 56 56 := fun _ => by kernel_rfl
theorem noAt_Cancelled : NotT 59 56 := fun _ => by kernel_rfl
theorem noErrno_Cancelled : NotT 35 56 := fun _ => by kernel_rfl
theorem isLate : IsT 57 57 := fun _ => by kernel_rfl
theorem noAt_Late : NotT 59 57 := fun _ => by kernel_rfl
theorem noErrno_Late : NotT 35 57 := fun _ => by kernel_rfl
theorem isPanicked : IsT 58 58 := fun _ => by kernel_rfl
theorem noAt_Panicked : NotT 59 58 := fun _ => by kernel_rfl
theorem noErrno_Panicked : NotT 35 58 := fun _ => by kernel_rfl
theorem no_Failed_Cancelled : NotT 55 56 := fun _ => by kernel_rfl
theorem no_Failed_Late : NotT 55 57 := fun _ => by kernel_rfl
theorem no_Failed_Panicked : NotT 55 58 := fun _ => by kernel_rfl
theorem no_Cancelled_Failed : NotT 56 55 := fun _ => by kernel_rfl
theorem no_Cancelled_Late : NotT 56 57 := fun _ => by kernel_rfl
theorem no_Cancelled_Panicked : NotT 56 58 := fun _ => by kernel_rfl
theorem no_Late_Failed : NotT 57 55 := fun _ => by kernel_rfl
theorem no_Late_Cancelled : NotT 57 56 := fun _ => by kernel_rfl
theorem no_Late_Panicked : NotT 57 58 := fun _ => by kernel_rfl
theorem no_Panicked_Failed : NotT 58 55 := fun _ => by kernel_rfl
theorem no_Panicked_Cancelled : NotT 58 56 := fun _ => by kernel_rfl
theorem no_Panicked_Late : NotT 58 57 := fun _ => by kernel_rfl
theorem ErrAt.chainT {w : World} (T : TypeId) (hA : NotT 59 T) {B : Base} {r : Option Value} (hb : ∀ v, B.In w v → Chain w T 1 v r) : ∀ {l : List Int} {v : Value}, ErrAt w l (some B) v → Chain w T (l.length + 1) v r
  | [], v, h => hb v h
  | n :: l, _, ⟨b, u, rfl, hk, hr⟩ => by
    rcases ErrAt.shape hr with ⟨_, _, h⟩ | ⟨E, x, rfl⟩
    · cases h
    · exact .more (lk_At _) hA (un_At b _ _ w hk) (ErrAt.chainT T hA hb hr)
end Go.Proofs.YtgdjbfcdkibdbaaDoor
