/- fault.Numbers at every error of this chapter: the numbers that it is wrapped by, the outermost first. Conditions: errors.errorType holds what the program lays. -/
import Derived.Test.YtgdjbfcdkibdbaaDoorInts
import Derived.Test.YtgdjbfcdkibdbaaDoorClass
import Derived.Test.YtgdjbfcdkibdbaaDoorAsE
import Derived.Deep.RegionHeld3
import Derived.Deep.AppendLies
import Derived.OwnWalk
namespace Go.Proofs.YtgdjbfcdkibdbaaDoor
open Go Go.RowKit
set_option maxRecDepth 100000
set_option maxHeartbeats 1000000
theorem isT_At : IsT 59 59 := fun _ => by kernel_rfl
theorem notA_Errno : NotT 35 59 := fun _ => by kernel_rfl
theorem notA_Failed : NotT 55 59 := fun _ => by kernel_rfl
theorem notA_Cancelled : NotT 56 59 := fun _ => by kernel_rfl
theorem notA_Late : NotT 57 59 := fun _ => by kernel_rfl
theorem notA_Panicked : NotT 58 59 := fun _ => by kernel_rfl
theorem notA_Str : NotT 240 59 := fun _ => by kernel_rfl
theorem Base.chainA {w : World} {B : Base} {v : Value} (h : B.In w v) : Chain w 59 1 v none := by
  cases B with
  | errno n => cases h; exact .bare (lk_Errno _) notA_Errno (bare_Errno _)
  | failed n => obtain ⟨b, rfl, _⟩ := h; exact .more (lk_Failed _) notA_Failed (un_Failed b w) (.bare (lk_Errno _) notA_Errno (bare_Errno _))
  | cancelled n => obtain ⟨b, rfl, _⟩ := h; exact .more (lk_Cancelled _) notA_Cancelled (un_Cancelled b w) (.bare (lk_Errno _) notA_Errno (bare_Errno _))
  | late n => obtain ⟨b, rfl, _⟩ := h; exact .more (lk_Late _) notA_Late (un_Late b w) (.bare (lk_Errno _) notA_Errno (bare_Errno _))
  | panicked x => obtain ⟨b, rfl, _⟩ := h; exact .more (lk_Panicked _) notA_Panicked (un_Panicked b w) (.bare (lk_Errno _) notA_Errno (bare_Errno _))
  | plain a => cases h; exact .bare (lk_Str _) notA_Str (bare_Str _)
theorem As_nil (w : World) (T : Value) : Calls Tryd.prog 47 #[.nilIface, T] w fun e w' => e = .returned (.bool false) ∧ w = w' := by
  go_enter Tryd.func47, Tryd.ntmps47
  go_wp2_with fail
  go_ret
  exact ⟨rfl, rfl⟩
theorem As_At_no (w : World) (a : Nat) (B : Option Base) (v : Value) (hv : ErrAt w [] B v) (hg : ErrType w) (hl : 1 < w.heap.size) :
    Calls Tryd.prog 47 #[v, .iface 121 (.pointer (some ⟨a, 0, none⟩))] w fun e w' => e = .returned (.bool false) ∧ Same w w' := by
  cases B with
  | none =>
    obtain rfl := hv
    exact (As_nil w _).mono fun e w' ⟨he, hw⟩ => ⟨he, hw ▸ Chg.refl _ _⟩
  | some B =>
    rcases ErrAt.shape hv with ⟨_, _, h⟩ | ⟨E, x, rfl⟩
    · cases h
    · exact As_none_At 1 E x w a hg hl (fun w1 h1 => Base.chainA (Base.In.same h1 hv))
end Go.Proofs.YtgdjbfcdkibdbaaDoor
