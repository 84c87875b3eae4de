/- treadlelaw16.JoinNone answers true for every three numbers, and leaves all memory as it was. Conditions: errors.errorType holds what the program lays (tied on the card); what the row says of the tape (calm). -/
import Derived.Test.YtgljjgmfhememaaGreatDoorJoinNoneP
import Derived.Test.YtgljjgmfhememaaGreatDoorJoinNoneZ
import Derived.Test.YtgljjgmfhememaaGreatDoorRowZ
import Derived.Stop.LaidErr
namespace Go.Proofs.YtgljjgmfhememaaGreatDoor
open Go Go.RowKit Go.ChangeShapes Go.WideShapes Go.ChangeAt
set_option maxRecDepth 100000
set_option maxHeartbeats 2000000
theorem joinNone_door (os : Os) (args : Array Value) : laidMetH Tryz.prog Rows.joinNoneRow.laid ((World.doorLaid Tryz.prog 400 os).forCall (fun _ _ => 0) ⟨#[], args, []⟩).memory :=
  laidMetH_of_parts (laidMet_nil _ _) (by kernel_rfl)
theorem f64_of_wf {n : Int} (h : (Lit.int .i64 n).wf = true) : -9223372036854775808 ≤ n ∧ n ≤ 9223372036854775807 := by
  simp only [Lit.wf, Bool.and_eq_true, decide_eq_true_eq] at h
  have e1 : IntKind.i64.min = -9223372036854775808 := by rfl
  have e2 : IntKind.i64.max = 9223372036854775807 := by rfl
  rw [e1, e2] at h
  exact h
theorem joinNone_law (many k nobody : Int) (w : World) (m0 : -9223372036854775808 ≤ many) (m1 : many ≤ 9223372036854775807) (hg : ErrType w) (hl : 0 < w.heap.size) :
    Calls Tryz.prog 3 #[.int .i64 many, .int .i64 k, .int .i64 nobody] w fun e w' => e = .returned (.bool true) ∧ Same w w' := by
  obtain ⟨n, hn, hat⟩ := at16 many m0 m1
  by_cases hz : n = 0
  · rcases Int.lt_trichotomy k 0 with hk | rfl | hk
    · exact joinNone_n_neg many k nobody n w hn hat hz hk hg hl
    · exact joinNone_n_zero many nobody n w hn hat hz hg hl
    · exact joinNone_n_big many k nobody n w hn hat hz hk hg hl
  have hpos : 0 < n := by omega
  by_cases hlo : nobody < 0
  · by_cases hk0 : k < 0
    · exact joinNone_neg_lo many k nobody n w hn hat hpos hlo hk0 hg hl
    by_cases hkz : k = 0
    · subst hkz; exact joinNone_zero_lo many nobody n w hn hat hpos hlo hg hl
    by_cases hkn : k ≤ n
    · exact joinNone_mid_lo many k nobody n w hn hat hpos hlo (by omega) hkn hg hl
    · exact joinNone_big_lo many k nobody n w hn hat hpos hlo (by omega) hg hl
  by_cases hhi : (n : Int) ≤ nobody
  · by_cases hk0 : k < 0
    · exact joinNone_neg_hi many k nobody n w hn hat hpos hhi hk0 hg hl
    by_cases hkz : k = 0
    · subst hkz; exact joinNone_zero_hi many nobody n w hn hat hpos hhi hg hl
    by_cases hkn : k ≤ n
    · exact joinNone_mid_hi many k nobody n w hn hat hpos hhi (by omega) hkn hg hl
    · exact joinNone_big_hi many k nobody n w hn hat hpos hhi (by omega) hg hl
  · exact joinNone_bad many k nobody n w hn hat ⟨hpos, by omega, by omega⟩ hg hl
theorem joinNone_lifted (os : Os) (started : os.Started) (H : Type) (enc : TypeId × Value → H) :
    ReturnsInHanded { calm := true } Tryz.checked os 3 .any (fun w args => (Rows.joinNoneSpec.pre enc Tryz.prog Tryz.f3 [] false w args ∧ laidMetH Tryz.prog Rows.joinNoneRow.laid w) ∧ sizedMet enc Tryz.prog Tryz.f3 (OpenSpec.ofChange Rows.joinNoneSpec) false w args)
      (Rows.joinNoneSpec.post enc Tryz.prog Tryz.f3 false true false false) := by
  refine returnsInHanded_of_change_and (C := Tryz.checked) (X := fun w _ => laidMetH Tryz.prog Rows.joinNoneRow.laid w) (fun _ _ _ hh h => h.of_heap hh) own_knob started (by kernel_rfl) Tryz.func3
    (witness_calm (enc := enc) (C := Tryz.checked) (os := os) (apart := false) (X := fun w _ => laidMetH Tryz.prog Rows.joinNoneRow.laid w) (World.doorLaid Tryz.prog 400 os) #[.int .i64 0, .int .i64 0, .int .i64 0] 8 rfl (World.shaped_of_RefB (by kernel_rfl) (by kernel_rfl)) (by kernel_rfl) (by kernel_rfl) (by kernel_rfl) (joinNone_door os _)) ?_
  intro W base args ds gs before hval0 hW hx1 hx2 hL hx3
  have hval : ∀ (j : Nat) t v, Tryz.f3.params[j]? = some t → args[j]? = some v → Value.okWide Tryz.prog W .any base t v := hval0
  have hW' := hW
  obtain ⟨p, q, hA0, hV, rfl, hfz, hnd⟩ := hW
  have hA : DataW.TrodAll enc Tryz.prog W 0 (fun _ => true) true Tryz.f3.params.toList args.toList ds p := hA0
  rw [Tryz.params3] at hA hval
  obtain ⟨v0, v1, v2, d0, d1, d2, p0, p1, p2, rfl, rfl, rfl, h0, h1, h2⟩ := trodAll_three hA
  obtain ⟨rfl, rfl⟩ := trodVars_none hV
  obtain ⟨many, rfl, rfl, rfl, wm⟩ := open_int Tryz.underlying3 (hval 0 3 v0 rfl rfl) h0
  obtain ⟨k, rfl, rfl, rfl, wk⟩ := open_int Tryz.underlying3 (hval 1 3 v1 rfl rfl) h1
  obtain ⟨nobody, rfl, rfl, rfl, wn⟩ := open_int Tryz.underlying3 (hval 2 3 v2 rfl rfl) h2
  have hg : ErrType W := errType_of_handles (l := Rows.joinNoneRow.laid) (show laidMet Tryz.prog [] W ∧ handlesMet Tryz.prog Rows.joinNoneRow.laid W from hL).2 (List.mem_singleton.2 rfl)
  simp only [List.append_nil] at hW'
  refine (joinNone_law many k nobody W (f64_of_wf wm).1 (f64_of_wf wm).2 hg (errType_lt hg)).mono fun e W' ⟨he, hw⟩ => ?_
  subst he
  have hb := hw.below (fun _ _ h => h)
  exact ⟨_, rfl, _, _, _, [], [], [], hW', trodAll_mk1 (shut_bool Tryz.underlying4 _), trodAll_mk3 (shut_int Tryz.underlying3 wm) (shut_int Tryz.underlying3 wk) (shut_int Tryz.underlying3 wn), rfl, hb.frame _, fun h => by cases h⟩
theorem joinNone_holds : Rows.JoinNoneSaid :=
  OpenClaim.holds_of_wide_leaving_time 3 Tryz.f3 rfl rfl rfl rfl rfl rfl rfl ⟨rfl, rfl, rfl, rfl, rfl⟩ rfl rfl rfl rfl rfl (by kernel_rfl) Tryz.func3 (by kernel_rfl)
    (of_decide_eq_true (by kernel_rfl)) (by unfold Func.isWrapper; rw [if_neg (of_decide_eq_false (by kernel_rfl))]; exact ⟨rfl, rfl⟩)
    (fun os started H enc _ F => leaving_of_handed (joinNone_lifted os started H enc))
theorem joinNone_card : Rows.JoinNoneCardSaid :=
  card_goes .later [.handle] true Rows.joinNoneCard.stood.harness true
    joinNone_holds (by kernel_rfl) joinNone_row_tie rfl ⟨rfl, rfl⟩ (by kernel_rfl) rfl
    (fun f fn hf hfn => by
      obtain rfl : f = 3 := Option.some.inj ((show Tryz.prog.funcNamed "treadle/treadlelaw16.JoinNone" = some 3 by kernel_rfl).symm.trans hf) |>.symm
      obtain rfl : fn = Tryz.f3 := (Option.some.inj (Tryz.func3.symm.trans hfn)).symm
      exact ⟨by kernel_rfl, fun j t ht => by
        rw [Tryz.params3] at ht
        have hm : t ∈ [3, 3, 3] := by simpa using Array.mem_of_getElem? ht
        have hall : ([3, 3, 3].all fun u => !Tryz.prog.wantsStandIn u) = true := by kernel_rfl
        exact (show Tryz.prog.wantsStandIn t = false by simpa using List.all_eq_true.1 hall t hm)⟩)
    (by kernel_rfl)
#print axioms joinNone_card
end Go.Proofs.YtgljjgmfhememaaGreatDoor
