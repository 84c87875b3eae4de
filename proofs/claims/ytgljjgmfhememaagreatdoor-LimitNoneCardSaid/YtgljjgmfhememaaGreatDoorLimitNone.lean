/- treadlelaw17.LimitNone answers true for every number, and leaves all memory as it was. Conditions: errors.errorType holds what the program lays (tied on the card); what the row says of the tape (calm). -/
import Derived.Test.YtgljjgmfhememaaGreatDoorLimitNoneW
import Derived.Test.YtgljjgmfhememaaGreatDoorRowZ
import Derived.Stop.LaidErr
namespace Go.Proofs.YtgljjgmfhememaaGreatDoor
open Go Go.RowKit Go.ChangeShapes Go.WideShapes Go.ChangeAt
set_option maxRecDepth 100000
set_option maxHeartbeats 2000000
theorem limitNone_door (os : Os) (args : Array Value) : laidMetH Tryz.prog Rows.limitNoneRow.laid ((World.doorLaid Tryz.prog 400 os).forCall (fun _ _ => 0) ⟨#[], args, []⟩).memory :=
  laidMetH_of_parts (laidMet_nil _ _) (by kernel_rfl)
theorem f64_of_wf17 {n : Int} (h : (Lit.int .i64 n).wf = true) : -9223372036854775808 ≤ n ∧ n ≤ 9223372036854775807 := by
  simp only [Lit.wf, Bool.and_eq_true, decide_eq_true_eq] at h
  have e1 : IntKind.i64.min = -9223372036854775808 := by rfl
  have e2 : IntKind.i64.max = 9223372036854775807 := by rfl
  rw [e1, e2] at h
  exact h
theorem limitNone_lifted (os : Os) (started : os.Started) (H : Type) (enc : TypeId × Value → H) :
    ReturnsInHanded { calm := true } Tryz.checked os 4 .any (fun w args => (Rows.limitNoneSpec.pre enc Tryz.prog Tryz.f4 [] false w args ∧ laidMetH Tryz.prog Rows.limitNoneRow.laid w) ∧ sizedMet enc Tryz.prog Tryz.f4 (OpenSpec.ofChange Rows.limitNoneSpec) false w args)
      (Rows.limitNoneSpec.post enc Tryz.prog Tryz.f4 false true false false) := by
  refine returnsInHanded_of_change_and (C := Tryz.checked) (X := fun w _ => laidMetH Tryz.prog Rows.limitNoneRow.laid w) (fun _ _ _ hh h => h.of_heap hh) own_knob started (by kernel_rfl) Tryz.func4
    (witness_calm (enc := enc) (C := Tryz.checked) (os := os) (apart := false) (X := fun w _ => laidMetH Tryz.prog Rows.limitNoneRow.laid w) (World.doorLaid Tryz.prog 400 os) #[.int .i64 0] 8 rfl (World.shaped_of_RefB (by kernel_rfl) (by kernel_rfl)) (by kernel_rfl) (by kernel_rfl) (by kernel_rfl) (limitNone_door os _)) ?_
  intro W base args ds gs before hval0 hW hx1 hx2 hL hx3
  have hval : ∀ (j : Nat) t v, Tryz.f4.params[j]? = some t → args[j]? = some v → Value.okWide Tryz.prog W .any base t v := hval0
  have hW' := hW
  obtain ⟨p, q, hA0, hV, rfl, hfz, hnd⟩ := hW
  have hA : DataW.TrodAll enc Tryz.prog W 0 (fun _ => true) true Tryz.f4.params.toList args.toList ds p := hA0
  rw [Tryz.params4] at hA hval
  obtain ⟨v0, d0, rfl, rfl, h0⟩ := trodAll_one hA
  obtain ⟨rfl, rfl⟩ := trodVars_none hV
  obtain ⟨n, rfl, rfl, rfl, wn⟩ := open_int Tryz.underlying2 (hval 0 2 v0 rfl rfl) h0
  have hg : ErrType W := errType_of_handles (l := Rows.limitNoneRow.laid) (show laidMet Tryz.prog [] W ∧ handlesMet Tryz.prog Rows.limitNoneRow.laid W from hL).2 (List.mem_singleton.2 rfl)
  simp only [List.append_nil] at hW'
  refine (limitNone_law n W (f64_of_wf17 wn).2 hg (errType_lt hg)).mono fun e W' ⟨he, hw⟩ => ?_
  subst he
  have hb := hw.below (fun _ _ h => h)
  exact ⟨_, rfl, _, _, _, [], [], [], hW', trodAll_mk1 (shut_bool Tryz.underlying4 _), trodAll_mk1 (shut_int Tryz.underlying2 wn), rfl, hb.frame _, fun h => by cases h⟩
theorem limitNone_holds : Rows.LimitNoneSaid :=
  OpenClaim.holds_of_wide_leaving_time 4 Tryz.f4 rfl rfl rfl rfl rfl rfl rfl ⟨rfl, rfl, rfl, rfl, rfl⟩ rfl rfl rfl rfl rfl (by kernel_rfl) Tryz.func4 (by kernel_rfl)
    (of_decide_eq_true (by kernel_rfl)) (by unfold Func.isWrapper; rw [if_neg (of_decide_eq_false (by kernel_rfl))]; exact ⟨rfl, rfl⟩)
    (fun os started H enc _ F => leaving_of_handed (limitNone_lifted os started H enc))
theorem limitNone_card : Rows.LimitNoneCardSaid :=
  card_goes .later [.handle] true Rows.limitNoneCard.stood.harness true
    limitNone_holds (by kernel_rfl) limitNone_row_tie rfl ⟨rfl, rfl⟩ (by kernel_rfl) rfl
    (fun f fn hf hfn => by
      obtain rfl : f = 4 := Option.some.inj ((show Tryz.prog.funcNamed "treadle/treadlelaw17.LimitNone" = some 4 by kernel_rfl).symm.trans hf) |>.symm
      obtain rfl : fn = Tryz.f4 := (Option.some.inj (Tryz.func4.symm.trans hfn)).symm
      exact ⟨by kernel_rfl, fun j t ht => by
        rw [Tryz.params4] at ht
        have hm : t ∈ [2] := by simpa using Array.mem_of_getElem? ht
        have hall : ([2].all fun u => !Tryz.prog.wantsStandIn u) = true := by kernel_rfl
        exact (show Tryz.prog.wantsStandIn t = false by simpa using List.all_eq_true.1 hall t hm)⟩)
    (by kernel_rfl)
#print axioms limitNone_card
end Go.Proofs.YtgljjgmfhememaaGreatDoor
