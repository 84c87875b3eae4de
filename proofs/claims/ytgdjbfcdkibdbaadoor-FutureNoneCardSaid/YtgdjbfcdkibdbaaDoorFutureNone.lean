/- treadlelaw14.FutureNone answers true for every number, and leaves all memory as it was. Conditions: errors.errorType holds what the program lays (tied on the card). -/
import Derived.Test.YtgdjbfcdkibdbaaDoorFutureNoneW
import Derived.Test.YtgdjbfcdkibdbaaDoorRow
import Derived.Test.YtgdjbfcdkibdbaaDoorRows
import Derived.Test.YtgdjbfcdkibdbaaDoorCards
import Derived.Test.YtgdjbfcdkibdbaaDoorTie
import Derived.ProofKit
import Derived.LaidHandle
import Derived.LaidMore
import Derived.OpenShut
import Derived.Stop.Joined
import Derived.JoinedOf
import Derived.Lay
import Derived.SevenTiedAt
namespace Go.Proofs.YtgdjbfcdkibdbaaDoor
open Go Go.RowKit Go.ChangeShapes Go.WideShapes Go.ChangeAt
set_option maxRecDepth 100000
set_option maxHeartbeats 2000000

theorem futureNone_door (os : Os) (args : Array Value) : laidMetH Tryd.prog Rows.futureNoneRow.laid ((World.doorLaid Tryd.prog 400 os).forCall (fun _ _ => 0) ⟨#[], args, []⟩).memory :=
  laidMetH_of_parts (laidMet_nil _ _) (by kernel_rfl)
theorem futureNone_lifted (os : Os) (started : os.Started) (H : Type) (enc : TypeId × Value → H) :
    ReturnsInHanded {} Tryd.checked os 7 .any (fun w args => (Rows.futureNoneSpec.pre enc Tryd.prog Tryd.f7 [] false w args ∧ laidMetH Tryd.prog Rows.futureNoneRow.laid w) ∧ sizedMet enc Tryd.prog Tryd.f7 (OpenSpec.ofChange Rows.futureNoneSpec) false w args)
      (Rows.futureNoneSpec.post enc Tryd.prog Tryd.f7 false true false false) := by
  refine returnsInHanded_of_change_and (C := Tryd.checked) (X := fun w _ => laidMetH Tryd.prog Rows.futureNoneRow.laid w) (fun _ _ _ hh h => h.of_heap hh) own_knob started (by kernel_rfl) Tryd.func7
    (ChangeSpec.witness_shaped (enc := enc) (C := Tryd.checked) (os := os) (X := fun w _ => laidMetH Tryd.prog Rows.futureNoneRow.laid w) false (World.doorLaid Tryd.prog 400 os) #[.int .i64 0] 8 rfl (World.shaped_of_RefB (by kernel_rfl) (by kernel_rfl)) (by kernel_rfl) (by kernel_rfl) (by kernel_rfl) (futureNone_door os _)) ?_
  intro W base args ds gs before hval0 hW _ _ hL _
  have hval : ∀ (j : Nat) t v, Tryd.f7.params[j]? = some t → args[j]? = some v → Value.okWide Tryd.prog W .any base t v := hval0
  have hW' := hW
  obtain ⟨p, q, hA0, hV, rfl, hfz, hnd⟩ := hW
  have hA : DataW.TrodAll enc Tryd.prog W 0 (fun _ => true) true Tryd.f7.params.toList args.toList ds p := hA0
  rw [Tryd.params7] at hA hval
  obtain ⟨v0, d0, rfl, rfl, h0⟩ := trodAll_one hA
  obtain ⟨rfl, rfl⟩ := trodVars_none hV
  obtain ⟨n, rfl, rfl, rfl, wn⟩ := open_int Tryd.underlying2 (hval 0 2 v0 rfl rfl) h0
  have hg : ErrType W := errType_of_handles (l := Rows.futureNoneRow.laid) (show laidMet Tryd.prog [] W ∧ handlesMet Tryd.prog Rows.futureNoneRow.laid W from hL).2 (List.mem_singleton.2 rfl)
  simp only [List.append_nil] at hW'
  refine (futureNone_law n W hg (errType_lt hg)).mono fun e W' ⟨he, hw⟩ => ?_
  subst he
  have hb := hw.below (fun _ _ h => h)
  exact ⟨_, rfl, _, _, _, [], [], [], hW', trodAll_mk1 (shut_bool Tryd.underlying4 _), trodAll_mk1 (shut_int Tryd.underlying2 wn), rfl, hb.frame _, fun h => by cases h⟩

theorem futureNone_holds : Rows.FutureNoneSaid :=
  OpenClaim.holds_of_wide 7 Tryd.f7 rfl rfl rfl rfl rfl rfl rfl ⟨rfl, rfl, rfl, rfl, rfl⟩ rfl rfl rfl rfl rfl (by kernel_rfl) Tryd.func7 (by kernel_rfl)
    (of_decide_eq_true (by kernel_rfl)) (by unfold Func.isWrapper; rw [if_neg (of_decide_eq_false (by kernel_rfl))]; exact ⟨rfl, rfl⟩)
    (fun os started H enc _ => futureNone_lifted os started H enc)

theorem futureNone_card : Rows.FutureNoneCardSaid :=
  Claim7.holds_tied_plain_at .later [] [.handle] true Rows.futureNoneCard.stood.harness true
    futureNone_holds (fun _ h => by cases h) (by kernel_rfl) (fun _ h => by cases h) futureNone_row_tie rfl ⟨rfl, rfl⟩ (by kernel_rfl) rfl
    (fun f fn hf hfn => by
      obtain rfl : f = 7 := Option.some.inj ((show Tryd.prog.funcNamed "treadle/treadlelaw14.FutureNone" = some 7 by kernel_rfl).symm.trans hf) |>.symm
      obtain rfl : fn = Tryd.f7 := (Option.some.inj (Tryd.func7.symm.trans hfn)).symm
      exact ⟨by kernel_rfl, fun j t ht => by
        rw [Tryd.params7] at ht
        have hm : t ∈ [2] := by simpa using Array.mem_of_getElem? ht
        have hall : ([2].all fun u => !Tryd.prog.wantsStandIn u) = true := by kernel_rfl
        exact (show Tryd.prog.wantsStandIn t = false by simpa using List.all_eq_true.1 hall t hm)⟩)
    (by kernel_rfl)
#print axioms futureNone_card
end Go.Proofs.YtgdjbfcdkibdbaaDoor
