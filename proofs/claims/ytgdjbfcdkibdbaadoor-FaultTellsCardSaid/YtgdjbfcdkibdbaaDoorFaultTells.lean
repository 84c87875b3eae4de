/- treadlelaw12.FaultTells answers true for every description and number, and leaves all memory as it was. Conditions: errors.errorType, internal/strconv.uint64pow10, treadlelaw12.plain hold what the program lays (tied on the card). -/
import Derived.Test.YtgdjbfcdkibdbaaDoorTellsW
import Derived.Lib.SmallJoins
import Derived.Test.YtgdjbfcdkibdbaaDoorRowF
import Derived.Test.YtgdjbfcdkibdbaaDoorRowI
import Derived.Test.YtgdjbfcdkibdbaaDoorRows
import Derived.Test.YtgdjbfcdkibdbaaDoorCards
import Derived.Test.YtgdjbfcdkibdbaaDoorTie
import Derived.ProofKit
import Derived.LaidHandle
import Derived.LaidMore
import Derived.OpenShut
import Derived.Stop.Joined
import Derived.JoinedOf
import Derived.Lay
import Derived.SevenTiedAt
namespace Go.Proofs.YtgdjbfcdkibdbaaDoor
open Go Go.RowKit Go.ChangeShapes Go.WideShapes Go.ChangeAt
set_option maxRecDepth 100000
set_option maxHeartbeats 2000000

theorem err_weights {H : Type} (k n : Int) (d : DataW H) (x : Nat) (hx : x ∈ DataW.weights Tryd.prog 41 d) : x ∈ DataW.weights Tryd.prog 43 (.agg [.lit (.int .i64 k), .lit (.int .i64 n), d]) := by
  simp only [DataW.weights, Tryd.underlying43, DataW.weightsEach, List.map_cons, List.map_nil, List.nil_append, List.append_nil]
  exact hx
theorem faultTells_door (os : Os) (args : Array Value) : laidMetH Tryd.prog Rows.faultTellsRow.laid ((World.doorLaid Tryd.prog 400 os).forCall (fun _ _ => 0) ⟨#[], args, []⟩).memory :=
  laidMetH_of_parts (laidMet_of_run' 400 (by kernel_rfl) (by kernel_rfl)) (by kernel_rfl)
theorem faultTells_lifted (os : Os) (started : os.Started) (H : Type) (enc : TypeId × Value → H) :
    ReturnsInHanded {} Tryd.checked os 4 .any (fun w args => (Rows.faultTellsSpec.pre enc Tryd.prog Tryd.f4 [] false w args ∧ laidMetH Tryd.prog Rows.faultTellsRow.laid w) ∧ sizedMet enc Tryd.prog Tryd.f4 (OpenSpec.ofChange Rows.faultTellsSpec) false w args)
      (Rows.faultTellsSpec.post enc Tryd.prog Tryd.f4 false true false false) := by
  refine returnsInHanded_of_change_and (C := Tryd.checked) (X := fun w _ => laidMetH Tryd.prog Rows.faultTellsRow.laid w) (fun _ _ _ hh h => h.of_heap hh) own_knob started (by kernel_rfl) Tryd.func4
    (ChangeSpec.witness_shaped (enc := enc) (C := Tryd.checked) (os := os) (X := fun w _ => laidMetH Tryd.prog Rows.faultTellsRow.laid w) false (World.doorLaid Tryd.prog 400 os) #[.agg #[.int .i64 0, .int .i64 0, .slice none 0 0], .int .i64 0] 8 rfl (World.shaped_of_RefB (by kernel_rfl) (by kernel_rfl)) (by kernel_rfl) (by kernel_rfl) (by kernel_rfl) (faultTells_door os _)) ?_
  intro W base args ds gs before hval0 hW hx1 hx2 hL hx3
  have hval : ∀ (j : Nat) t v, Tryd.f4.params[j]? = some t → args[j]? = some v → Value.okWide Tryd.prog W .any base t v := hval0
  have hW' := hW
  obtain ⟨p, q, hA0, hV, rfl, hfz, hnd⟩ := hW
  have hA : DataW.TrodAll enc Tryd.prog W 0 (fun _ => true) true Tryd.f4.params.toList args.toList ds p := hA0
  rw [Tryd.params4] at hA hval
  obtain ⟨v0, v1, d0, d1, p0, p1, rfl, rfl, rfl, h0, h1⟩ := trodAll_two hA
  obtain ⟨rfl, rfl⟩ := trodVars_none hV
  obtain ⟨num, rfl, rfl, rfl, wn⟩ := open_int Tryd.underlying3 (hval 1 3 v1 rfl rfl) h1
  obtain ⟨hg, hp, pa, hpg, hpa⟩ := fault_laid (show laidMetH Tryd.prog faultLaid W from hL)
  simp only [List.append_nil] at hW'
  have h0k := h0
  have hP0 := hval 0 43 v0 rfl rfl
  clear hval hval0 hA0
  obtain ⟨c0, c1, c2, y0, y1, y2, m, rfl, rfl, rfl, hy0, hy1, hy2⟩ := Joins.open_agg3 Tryd.underlying43 (by kernel_rfl) (by kernel_rfl) hP0 h0
  obtain ⟨k, e0, rfl, wk⟩ := DataW.trod_int Tryd.underlying3 hy0
  obtain ⟨n, e1, rfl, wi⟩ := DataW.trod_int Tryd.underlying2 hy1
  simp at e0 e1
  subst e0 e1
  obtain ⟨a0, len, cap, e2⟩ := Joins.slice_form Tryd.underlying41 hy2
  simp at e2
  subst e2
  obtain ⟨zs, hI, hzf⟩ := ints_of_trod (d := y2.1) (p := y2.2) hy2 (fun x hx => by
    have hx2' := List.all_eq_true.1 hx2 x (by
      rw [show Tryd.f4.params.toList = [43, 3] by rw [Tryd.params4]]
      simp only [List.cons_append, List.nil_append, DataW.weightsEach, List.mem_append]
      exact .inl (err_weights k n y2.1 x hx))
    simpa using hx2')
  have hlt : ∀ x ∈ y2.2, x.block < W.heap.size := fun x hx => by simpa using hW'.lt x (by simpa using hx)
  refine (faultTells_law k n num _ zs W pa (f64_of_wf wk).1 (f64_of_wf wk).2 (f64_of_wf wi) (f64_of_wf wn) hI hzf hg (errType_lt hg) hp hpg hpa).mono fun e W' ⟨he, hw⟩ => ?_
  subst he
  have hb := hw.below (fun _ _ h => h)
  exact ⟨_, rfl, _, _, _, [], _, [], hW', trodAll_mk1 (shut_bool Tryd.underlying4 _), trodAll_mk2 (Below.trod laidOut (by kernel_rfl) (of_decide_eq_true (by kernel_rfl)) h0k hb (by simpa using hlt)) (shut_int Tryd.underlying3 wn), rfl, hb.frame _, fun h => by cases h⟩
theorem faultTells_holds : Rows.FaultTellsSaid :=
  OpenClaim.holds_of_wide 4 Tryd.f4 rfl rfl rfl rfl rfl rfl rfl ⟨rfl, rfl, rfl, rfl, rfl⟩ rfl rfl rfl rfl rfl (by kernel_rfl) Tryd.func4 (by kernel_rfl)
    (of_decide_eq_true (by kernel_rfl)) (by unfold Func.isWrapper; rw [if_neg (of_decide_eq_false (by kernel_rfl))]; exact ⟨rfl, rfl⟩)
    (fun os started H enc _ => faultTells_lifted os started H enc)

theorem faultTells_card : Rows.FaultTellsCardSaid :=
  Claim7.holds_tied_plain_at .later [] [.data, .data, .data, .handle, .sentinel] true Rows.faultTellsCard.stood.harness true
    faultTells_holds (fun _ h => by cases h) (by kernel_rfl) (fun _ h => by cases h) faultTells_row_tie rfl ⟨rfl, rfl⟩ (by kernel_rfl) rfl
    (fun f fn hf hfn => by
      obtain rfl : f = 4 := Option.some.inj ((show Tryd.prog.funcNamed "treadle/treadlelaw12.FaultTells" = some 4 by kernel_rfl).symm.trans hf) |>.symm
      obtain rfl : fn = Tryd.f4 := (Option.some.inj (Tryd.func4.symm.trans hfn)).symm
      exact ⟨by kernel_rfl, fun j t ht => by
        rw [Tryd.params4] at ht
        have hm : t ∈ [43, 3] := by simpa using Array.mem_of_getElem? ht
        have hall : ([43, 3].all fun u => !Tryd.prog.wantsStandIn u) = true := by kernel_rfl
        exact (show Tryd.prog.wantsStandIn t = false by simpa using List.all_eq_true.1 hall t hm)⟩)
    (by kernel_rfl)
#print axioms faultTells_card
end Go.Proofs.YtgdjbfcdkibdbaaDoor
