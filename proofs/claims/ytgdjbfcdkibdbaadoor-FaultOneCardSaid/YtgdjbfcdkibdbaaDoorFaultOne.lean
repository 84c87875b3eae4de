/- treadlelaw12.FaultOne answers true for every kind, number and list of wrappings, and leaves all memory as it was. Conditions: errors.errorType, internal/strconv.uint64pow10 hold what the program lays (tied on the card). -/
import Derived.Test.YtgdjbfcdkibdbaaDoorFaultOne1
import Derived.Test.YtgdjbfcdkibdbaaDoorFaultOne2
import Derived.Test.YtgdjbfcdkibdbaaDoorFaultOne3
import Derived.Test.YtgdjbfcdkibdbaaDoorFaultOne4
import Derived.Test.YtgdjbfcdkibdbaaDoorRowF
import Derived.Test.YtgdjbfcdkibdbaaDoorRowI
import Derived.Test.YtgdjbfcdkibdbaaDoorRows
import Derived.Test.YtgdjbfcdkibdbaaDoorCards
import Derived.Test.YtgdjbfcdkibdbaaDoorTie
import Derived.ProofKit
import Derived.LaidHandle
import Derived.LaidMore
import Derived.OpenShut
import Derived.Stop.Joined
import Derived.JoinedOf
import Derived.Lay
import Derived.SevenTiedAt
namespace Go.Proofs.YtgdjbfcdkibdbaaDoor
open Go Go.RowKit Go.ChangeShapes Go.WideShapes Go.ChangeAt
set_option maxRecDepth 100000
set_option maxHeartbeats 2000000

theorem faultOne_any (kind num : Int) (v : Value) (zs : List Int) (w : World) (k0 : -9223372036854775808 ≤ kind) (k1 : kind ≤ 9223372036854775807) (hv : Ints w v zs)
    (hg : ErrType w) (hl : 1 < w.heap.size) (hp : Pow w) :
    Calls Tryd.prog 6 #[.int .i64 kind, .int .i64 num, v] w fun e w' => e = .returned (.bool true) ∧ Same w w' := by
  have h1 := Int.tmod_lt_of_pos (kind.tmod 4 + 4) (show (0:Int) < 4 by decide)
  have h2 := Int.lt_tmod_of_pos kind (show (0:Int) < 4 by decide)
  have h3 := Int.tmod_nonneg (4 : Int) (show (0:Int) ≤ kind.tmod 4 + 4 by omega)
  have h : (kind.tmod 4 + 4).tmod 4 = 0 ∨ (kind.tmod 4 + 4).tmod 4 = 1 ∨ (kind.tmod 4 + 4).tmod 4 = 2 ∨ (kind.tmod 4 + 4).tmod 4 = 3 := by omega
  rcases h with h | h | h | h
  · exact faultOne_1 kind num v zs w k0 k1 h hv hg hl hp
  · exact faultOne_2 kind num v zs w k0 k1 h hv hg hl hp
  · exact faultOne_3 kind num v zs w k0 k1 h hv hg hl hp
  · exact faultOne_4 kind num v zs w k0 k1 h hv hg hl hp
theorem faultOne_door (os : Os) (args : Array Value) : laidMetH Tryd.prog Rows.faultOneRow.laid ((World.doorLaid Tryd.prog 400 os).forCall (fun _ _ => 0) ⟨#[], args, []⟩).memory :=
  laidMetH_of_parts (laidMet_of_run' 400 (by kernel_rfl) (by kernel_rfl)) (by kernel_rfl)
theorem faultOne_lifted (os : Os) (started : os.Started) (H : Type) (enc : TypeId × Value → H) :
    ReturnsInHanded {} Tryd.checked os 6 .any (fun w args => (Rows.faultOneSpec.pre enc Tryd.prog Tryd.f6 [] false w args ∧ laidMetH Tryd.prog Rows.faultOneRow.laid w) ∧ sizedMet enc Tryd.prog Tryd.f6 (OpenSpec.ofChange Rows.faultOneSpec) false w args)
      (Rows.faultOneSpec.post enc Tryd.prog Tryd.f6 false true false false) := by
  refine returnsInHanded_of_change_and (C := Tryd.checked) (X := fun w _ => laidMetH Tryd.prog Rows.faultOneRow.laid w) (fun _ _ _ hh h => h.of_heap hh) own_knob started (by kernel_rfl) Tryd.func6
    (ChangeSpec.witness_shaped (enc := enc) (C := Tryd.checked) (os := os) (X := fun w _ => laidMetH Tryd.prog Rows.faultOneRow.laid w) false (World.doorLaid Tryd.prog 400 os) #[.int .i64 0, .int .i64 0, .slice none 0 0] 8 rfl (World.shaped_of_RefB (by kernel_rfl) (by kernel_rfl)) (by kernel_rfl) (by kernel_rfl) (by kernel_rfl) (faultOne_door os _)) ?_
  intro W base args ds gs before hval0 hW hx1 hx2 hL hx3
  have hval : ∀ (j : Nat) t v, Tryd.f6.params[j]? = some t → args[j]? = some v → Value.okWide Tryd.prog W .any base t v := hval0
  have hW' := hW
  obtain ⟨p, q, hA0, hV, rfl, hfz, hnd⟩ := hW
  have hA : DataW.TrodAll enc Tryd.prog W 0 (fun _ => true) true Tryd.f6.params.toList args.toList ds p := hA0
  rw [Tryd.params6] at hA hval
  obtain ⟨v0, v1, v2, d0, d1, d2, p0, p1, p2, rfl, rfl, rfl, h0, h1, h2⟩ := trodAll_three hA
  obtain ⟨rfl, rfl⟩ := trodVars_none hV
  obtain ⟨kind, rfl, rfl, rfl, wk⟩ := open_int Tryd.underlying3 (hval 0 3 v0 rfl rfl) h0
  obtain ⟨num, rfl, rfl, rfl, wn⟩ := open_int Tryd.underlying2 (hval 1 2 v1 rfl rfl) h1
  obtain ⟨hg, hp, _⟩ := fault_laid (show laidMetH Tryd.prog faultLaid W from hL)
  simp only [List.append_nil] at hW'
  obtain ⟨a0, len, cap, rfl⟩ := okWide_slice Tryd.underlying41 (hval 2 41 v2 rfl rfl)
  have h2k := h2
  obtain ⟨fuel, hf⟩ := h2
  have hcells : (Value.slice a0 len cap).cells.toList = [.slice a0 len cap] := by simp [Value.cells]
  rw [hcells] at hf
  obtain ⟨zs, hI, _⟩ := ints_of_trod hf (fun x hx => by
    have hx2' := List.all_eq_true.1 hx2 x (by
      rw [show Tryd.f6.params.toList = [3, 2, 41] by rw [Tryd.params6]]
      simp only [List.cons_append, List.nil_append, DataW.weightsEach, List.mem_append]
      exact .inr (.inr (.inl hx)))
    simpa using hx2')
  have hlt : ∀ x ∈ p2, x.block < W.heap.size := fun x hx => by simpa using hW'.lt x (by simpa using hx)
  refine (faultOne_any kind num _ zs W (f64_of_wf wk).1 (f64_of_wf wk).2 hI hg (errType_lt hg) hp).mono fun e W' ⟨he, hw⟩ => ?_
  subst he
  have hb := hw.below (fun _ _ h => h)
  exact ⟨_, rfl, _, _, _, [], _, [], hW', trodAll_mk1 (shut_bool Tryd.underlying4 _), trodAll_mk3 (shut_int Tryd.underlying3 wk) (shut_int Tryd.underlying2 wn) (Below.trod laidOut (by kernel_rfl) (of_decide_eq_true (by kernel_rfl)) h2k hb hlt), rfl, hb.frame _, fun h => by cases h⟩
theorem faultOne_holds : Rows.FaultOneSaid :=
  OpenClaim.holds_of_wide 6 Tryd.f6 rfl rfl rfl rfl rfl rfl rfl ⟨rfl, rfl, rfl, rfl, rfl⟩ rfl rfl rfl rfl rfl (by kernel_rfl) Tryd.func6 (by kernel_rfl)
    (of_decide_eq_true (by kernel_rfl)) (by unfold Func.isWrapper; rw [if_neg (of_decide_eq_false (by kernel_rfl))]; exact ⟨rfl, rfl⟩)
    (fun os started H enc _ => faultOne_lifted os started H enc)

theorem faultOne_card : Rows.FaultOneCardSaid :=
  Claim7.holds_tied_plain_at .later [] [.data, .data, .data, .handle, .sentinel] true Rows.faultOneCard.stood.harness true
    faultOne_holds (fun _ h => by cases h) (by kernel_rfl) (fun _ h => by cases h) faultOne_row_tie rfl ⟨rfl, rfl⟩ (by kernel_rfl) rfl
    (fun f fn hf hfn => by
      obtain rfl : f = 6 := Option.some.inj ((show Tryd.prog.funcNamed "treadle/treadlelaw12.FaultOne" = some 6 by kernel_rfl).symm.trans hf) |>.symm
      obtain rfl : fn = Tryd.f6 := (Option.some.inj (Tryd.func6.symm.trans hfn)).symm
      exact ⟨by kernel_rfl, fun j t ht => by
        rw [Tryd.params6] at ht
        have hm : t ∈ [3, 2, 41] := by simpa using Array.mem_of_getElem? ht
        have hall : ([3, 2, 41].all fun u => !Tryd.prog.wantsStandIn u) = true := by kernel_rfl
        exact (show Tryd.prog.wantsStandIn t = false by simpa using List.all_eq_true.1 hall t hm)⟩)
    (by kernel_rfl)
#print axioms faultOne_card
end Go.Proofs.YtgdjbfcdkibdbaaDoor
