/- treadlelaw15.MemoPlaces answers true for every key and size, and leaves all memory as it was. Conditions: errors.errorType, math/bits.deBruijn32tab and math/bits.deBruijn64tab hold what the program lays (tied on the card); what the row says of the tape (calm). -/
import Derived.Test.YtgdjbfcdkibdbaaGreatDoorMemoPlacesW
import Derived.Test.YtgdjbfcdkibdbaaGreatDoorRowZ
import Derived.Stop.LaidErr
namespace Go.Proofs.YtgdjbfcdkibdbaaGreatDoor
open Go Go.RowKit Go.ChangeShapes Go.WideShapes Go.ChangeAt
set_option maxRecDepth 100000
set_option maxHeartbeats 2000000
theorem tab_data : (Rows.laid_math_bits_deBruijn64tab : DataW Unit) = Lib.tabData .u8 tab64 := by kernel_rfl
abbrev bitsData : List (String × DataW Unit) := [("math/bits.deBruijn32tab", Rows.laid_math_bits_deBruijn32tab), ("math/bits.deBruijn64tab", Rows.laid_math_bits_deBruijn64tab)]
theorem memo_laid {W : World} (h : laidMetH Tryz.prog Rows.memoPlacesRow.laid W) : ErrType W ∧ Tab W := by
  have h' : laidMet Tryz.prog bitsData W ∧ handlesMet Tryz.prog [("errors.errorType", Rows.laid_errors_errorType)] W := h
  obtain ⟨hd, hh⟩ := h'
  refine ⟨errType_of_handles hh (List.mem_singleton.2 rfl), ?_⟩
  have h2 := hd.tail
  rw [tab_data] at h2
  exact Lib.tabIs_of_head (t := 275) (e := 5) (n := 64) tabg (by kernel_rfl) Tryz.underlying275 Tryz.underlying5 (by kernel_rfl) (by kernel_rfl) h2
theorem memoPlaces_door (os : Os) (args : Array Value) : laidMetH Tryz.prog Rows.memoPlacesRow.laid ((World.doorLaid Tryz.prog 400 os).forCall (fun _ _ => 0) ⟨#[], args, []⟩).memory :=
  laidMetH_of_parts (laidMet_of_run' 400 (by kernel_rfl) (by kernel_rfl)) (by kernel_rfl)
theorem f64_of_wf {n : Int} (h : (Lit.int .i64 n).wf = true) : -9223372036854775808 ≤ n ∧ n ≤ 9223372036854775807 := by
  simp only [Lit.wf, Bool.and_eq_true, decide_eq_true_eq] at h
  have e1 : IntKind.i64.min = -9223372036854775808 := by rfl
  have e2 : IntKind.i64.max = 9223372036854775807 := by rfl
  rw [e1, e2] at h
  exact h
theorem memoPlaces_lifted (os : Os) (started : os.Started) (H : Type) (enc : TypeId × Value → H) :
    ReturnsInHanded { calm := true } Tryz.checked os 3 .any (fun w args => (Rows.memoPlacesSpec.pre enc Tryz.prog Tryz.f3 [] false w args ∧ laidMetH Tryz.prog Rows.memoPlacesRow.laid w) ∧ sizedMet enc Tryz.prog Tryz.f3 (OpenSpec.ofChange Rows.memoPlacesSpec) false w args)
      (Rows.memoPlacesSpec.post enc Tryz.prog Tryz.f3 false true false false) := by
  refine returnsInHanded_of_change_and (C := Tryz.checked) (X := fun w _ => laidMetH Tryz.prog Rows.memoPlacesRow.laid w) (fun _ _ _ hh h => h.of_heap hh) own_knob started (by kernel_rfl) Tryz.func3
    (witness_calm (enc := enc) (C := Tryz.checked) (os := os) (apart := false) (X := fun w _ => laidMetH Tryz.prog Rows.memoPlacesRow.laid w) (World.doorLaid Tryz.prog 400 os) #[.int .i64 0, .int .i64 0] 8 rfl (World.shaped_of_RefB (by kernel_rfl) (by kernel_rfl)) (by kernel_rfl) (by kernel_rfl) (by kernel_rfl) (memoPlaces_door os _)) ?_
  intro W base args ds gs before hval0 hW hx1 hx2 hL hx3
  have hval : ∀ (j : Nat) t v, Tryz.f3.params[j]? = some t → args[j]? = some v → Value.okWide Tryz.prog W .any base t v := hval0
  have hW' := hW
  obtain ⟨p, q, hA0, hV, rfl, hfz, hnd⟩ := hW
  have hA : DataW.TrodAll enc Tryz.prog W 0 (fun _ => true) true Tryz.f3.params.toList args.toList ds p := hA0
  rw [Tryz.params3] at hA hval
  obtain ⟨v0, v1, d0, d1, p0, p1, rfl, rfl, rfl, h0, h1⟩ := trodAll_two hA
  obtain ⟨rfl, rfl⟩ := trodVars_none hV
  obtain ⟨key, rfl, rfl, rfl, wk⟩ := open_int Tryz.underlying2 (hval 0 2 v0 rfl rfl) h0
  obtain ⟨s, rfl, rfl, rfl, ws⟩ := open_int Tryz.underlying3 (hval 1 3 v1 rfl rfl) h1
  obtain ⟨hg, ht⟩ := memo_laid hL
  simp only [List.append_nil] at hW'
  refine (memoPlaces_law key s W (f64_of_wf wk).1 (f64_of_wf wk).2 hg (errType_lt hg) ht).mono fun e W' ⟨he, hw⟩ => ?_
  subst he
  have hb := hw.below (fun _ _ h => h)
  exact ⟨_, rfl, _, _, _, [], [], [], hW', trodAll_mk1 (shut_bool Tryz.underlying4 _), trodAll_mk2 (shut_int Tryz.underlying2 wk) (shut_int Tryz.underlying3 ws), rfl, hb.frame _, fun h => by cases h⟩
theorem memoPlaces_holds : Rows.MemoPlacesSaid :=
  OpenClaim.holds_of_wide_leaving_time 3 Tryz.f3 rfl rfl rfl rfl rfl rfl rfl ⟨rfl, rfl, rfl, rfl, rfl⟩ rfl rfl rfl rfl rfl (by kernel_rfl) Tryz.func3 (by kernel_rfl)
    (of_decide_eq_true (by kernel_rfl)) (by unfold Func.isWrapper; rw [if_neg (of_decide_eq_false (by kernel_rfl))]; exact ⟨rfl, rfl⟩)
    (fun os started H enc _ F => leaving_of_handed (memoPlaces_lifted os started H enc))
theorem memoPlaces_card : Rows.MemoPlacesCardSaid :=
  card_goes .later [.data, .data, .handle] true Rows.memoPlacesCard.stood.harness true
    memoPlaces_holds (by kernel_rfl) memoPlaces_row_tie rfl ⟨rfl, rfl⟩ (by kernel_rfl) rfl
    (fun f fn hf hfn => by
      obtain rfl : f = 3 := Option.some.inj ((show Tryz.prog.funcNamed "treadle/treadlelaw15.MemoPlaces" = some 3 by kernel_rfl).symm.trans hf) |>.symm
      obtain rfl : fn = Tryz.f3 := (Option.some.inj (Tryz.func3.symm.trans hfn)).symm
      exact ⟨by kernel_rfl, fun j t ht => by
        rw [Tryz.params3] at ht
        have hm : t ∈ [2, 3] := by simpa using Array.mem_of_getElem? ht
        have hall : ([2, 3].all fun u => !Tryz.prog.wantsStandIn u) = true := by kernel_rfl
        exact (show Tryz.prog.wantsStandIn t = false by simpa using List.all_eq_true.1 hall t hm)⟩)
    (by kernel_rfl)
#print axioms memoPlaces_card
end Go.Proofs.YtgdjbfcdkibdbaaGreatDoor
