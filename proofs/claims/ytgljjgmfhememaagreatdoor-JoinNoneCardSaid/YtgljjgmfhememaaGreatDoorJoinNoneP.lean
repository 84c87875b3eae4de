/- treadlelaw16.JoinNone, its walk where all are futures and there is one at least. Conditions: errors.errorType holds what the program lays. -/
import Derived.Test.YtgljjgmfhememaaGreatDoorJoinNoneW
namespace Go.Proofs.YtgljjgmfhememaaGreatDoor
open Go Go.RowKit Go.Sort
set_option maxRecDepth 100000
set_option maxHeartbeats 8000000
theorem joinNone_mid_lo (many k nobody : Int) (n : Nat) (w : World) (hn : n ≤ 5) (hat : ∀ w, Calls Tryz.prog 9 #[.int .i64 many, .int .i64 6] w fun e w' => e = .returned (.int .i64 n) ∧ w = w') (hpos : 0 < n) (hnob : nobody < 0) (hk1 : 1 ≤ k) (hk2 : k ≤ n) (hg : ErrType w) (hl : 0 < w.heap.size) :
    Calls Tryz.prog 3 #[.int .i64 many, .int .i64 k, .int .i64 nobody] w fun e w' => e = .returned (.bool true) ∧ Same w w' := by
  have hcall := Lib.hid (hat w)
  have HE := Lib.hid (And.intro hg hl)
  obtain ⟨i0, hi, hz0, hz1, hz2⟩ := info_parts (P := Tryz.prog) (e := 24) (z := .pointer none) (size := 1) (bytes := 8) (by kernel_rfl)
  clear hat hg hl
  go_enter Tryz.func3, Tryz.ntmps3
  go_wp2_with fail
  refine hcall.out.mono ?_
  rintro e _ ⟨rfl, rfl⟩
  clear hcall
  go_wp2_with fail
  go_loopw [7, 8] (fun v i wr => ∃ rs : List FR, rs.length ≤ n ∧ i = .int .i64 rs.length ∧ FRow w wr v rs) (fun _ i _ => n - (intOf i).toNat)
  case atStart => exact ⟨[], by simp, rfl, FRow.nil w⟩
  case round =>
    obtain ⟨rs, hrs, rfl, hrow⟩ := hrel
    rename World => wr
    have HR := Lib.hid hrow
    by_cases hlt : rs.length < n
    · clear hrow
      go_wp2_with fail
      refine (fut_new_f wr).mono ?_
      rintro e w1 ⟨r, rfl, hF, hnew, s1⟩
      have hown := (HR.out.same_step s1).own
      have HF := Lib.hid (And.intro hF (And.intro hnew s1))
      have hz := s1.size
      have hzr := HR.out.same.size
      clear hF hnew s1
      go_wp2_with (at_builtin; refine wpList_append_own _ rfl _ _ 23 rfl w.heap.size 24 i0 (.pointer none) 1 8 Tryz.underlying23 hi hz0 hz1 hz2 rfl (by decide) _ _ _ rfl (hown.alloc _) ⟨w1.heap.size, 0, none⟩ 1 1 [.pointer (some ⟨r.b, 0, none⟩)] rfl rfl ?c1 ?c2 ?c3 ?c4 ?c5 ?c6)
      case c1 =>
        intro j u hj
        rcases j with _ | j
        · simp at hj; subst hj; exact (Blk.new w1 _ _).cellAt 0 rfl
        · simp at hj
      case c2 => intro u hu; simp at hu; subst hu; rfl
      case c3 => unfold maxLen; omega
      case c4 => omega
      case c5 => simp; omega
      case c6 =>
        intro v' w2 ho hgr hne
        have hrow' : FRow w w2 v' (rs ++ [r]) := by
          obtain ⟨hF, hnew, s1⟩ := HF.out
          exact ((HR.out.same_step s1).same_step ((Chg.refl _ _).alloc _)).step (hF.chg (S := fun _ => False) ((Chg.refl _ _).alloc _) (fun _ _ x => x)) (fun k hk => Nat.le_trans hzr (hnew k hk)) ⟨wr.heap.size, fun x hx k hk => (HR.out.fut x hx).lt k hk, hnew⟩ ho hgr
        have HR' := Lib.hid hrow'
        clear hrow' ho hgr hne hown HF HR hz hzr
        go_wp2_with fail
        go_roundw
        case rel =>
          have hl : ((rs ++ [r]).length : Int) = rs.length + 1 := by simp
          first | exact ⟨rs ++ [r], by simp; omega, by rw [hl], HR'.out⟩ | exact ⟨rs ++ [r], by simp; omega, by rw [hl], HR'.out, trivial⟩
        case measure => simp [intOf]; omega
    · obtain rfl : rs.length = n := by omega
      clear hrow
      have HN := Lib.hid hnob
      clear hnob
      obtain ⟨g, c, cur, rfl, hgw, hB, hcur⟩ := HR.out.blk hpos
      have hrow := HR.out
      have hgn : ¬ Any rs g := fun ⟨r, hr, hx⟩ => (hrow.fut r hr).ne_blk hB (by decide) (by decide) (by decide) (by decide) hx
      have hlt2 : ∀ q, Any rs q → q < wr.heap.size := any_lt (fun r hr => (hrow.fut r hr).lt)
      have hge2 : ∀ q, Any rs q → w.heap.size ≤ q := fun q ⟨r, hr, hq⟩ => hrow.new r hr q hq
      have hP := hrow.ptrs (by omega)
      have hA := all_open wr _ rs (fun _ => []) (fun _ => by simp) hP hrow.apart (fun j hj => hrow.fut _ (List.getElem_mem hj)) (hlb_of hgn hB.lt)
      have HA := Lib.hid hA
      have HQ := Lib.hid (And.intro hgn (And.intro hlt2 (And.intro hge2 (And.intro hP (And.intro hrow.apart (And.intro hB.lt hrow.same))))))
      clear hgw hB hcur hrow hgn hlt2 hge2 hP hA
      have hnn := HN.out
      have h0b : ((rs.length : Int) == 0) = false := beq_eq_false_iff_ne.2 (by omega)
      have hgb : decide (0 < (rs.length : Int)) = true := by simp; omega
      clear HN
      go_wp2_with fail
      refine HA.out.mono ?_
      rintro e w3 ⟨hpost, _⟩
      obtain ⟨g1, kl, ke, kj, kx, rfl, hJ, hF1, hM, hC3⟩ := hpost (by omega)
      obtain ⟨fs1, hfl1, hff1⟩ := more_choice (n := 0) (fun _ => by simp) hM
      have HP3 := Lib.hid (And.intro hJ (And.intro hF1 hC3))
      have HB3 : Hid (Calls Tryz.prog 12 #[.pointer none, .slice (some ⟨g, 0, none⟩) rs.length c] w3 (AnyDone w3 rs fs1)) := by
        refine Lib.hid ?_
        obtain ⟨hgn, hlt2, hge2, hP, hap, hgl, _⟩ := HQ.out
        exact any_open w3 _ rs fs1 (fun j => by have := hfl1 j; omega) (hP.chg hC3 (fun a m c e => by cases e; exact hgn)) hap hff1 (hlb_of hgn (Nat.lt_of_lt_of_le hgl hC3.size)) hpos
      have HC3 := Lib.hid hC3
      have HFL := Lib.hid hfl1
      clear hpost hJ hF1 hM hC3 hfl1 hff1 HA
      go_wp2_with fail
      refine HB3.out.mono ?_
      rintro e w4 ⟨g2, k6, rfl, hF2, hB6, hg2, hk6, hM4, hC4⟩
      obtain ⟨fs2, hfl2, hff2⟩ := more_choice (n := 1) (fun j => by have := HFL.out j; omega) hM4
      have hP4 : Ptrs w4 (.slice (some ⟨g, 0, none⟩) rs.length c) (rs.map fun r => some ⟨r.b, 0, none⟩) := by
        obtain ⟨hgn, hlt2, hge2, hP, hap, hgl, _⟩ := HQ.out
        exact (hP.chg HC3.out (fun a m c e => by cases e; exact hgn)).chg hC4 (fun a m c e => by cases e; exact hgn)
      have hmade : ∀ p ∈ (rs.map fun r => some (⟨r.b, 0, none⟩ : Addr)), MadeP w4 p := fun p hp => by
        obtain ⟨r, hr, rfl⟩ := List.mem_map.1 hp
        obtain ⟨j, hj, rfl⟩ := List.getElem_of_mem hr
        exact (hff2 j hj).n.made
      have HC4 := Lib.hid hC4
      have HP4 := Lib.hid (And.intro hF2 (And.intro hfl2 (And.intro hff2 hP4)))
      have HMD := Lib.hid hmade
      clear hF2 hB6 hg2 hk6 hM4 hC4 hfl2 hff2 hP4 HB3 hmade
      go_wp2_with fail
      have hkz : (k == 0) = false := beq_eq_false_iff_ne.2 (by omega)
      have hq := quorum_f w4 k _ rs fs2 (fun j => by have := HP4.out.2.1 j; omega) HP4.out.2.2.2 HQ.out.2.2.2.2.1 HP4.out.2.2.1 (hlb_of HQ.out.1 (Nat.lt_of_lt_of_le HQ.out.2.2.2.2.2.1 (HC3.out.trans HC4.out).size)) hk1 (by omega)
      have HK := Lib.hid hq
      clear hq
      refine HK.out.mono ?_
      rintro e w5 ⟨g3, gd, kg, kgd, kw, rfl, hQ, hF3, hg3, hgd, hM5, hC5⟩
      have HC5 := Lib.hid hC5
      have HP5 := Lib.hid hF3
      clear hQ hF3 hg3 hgd hM5 hC5 HK
      have HS3 : Hid (Same w w5) := by
        obtain ⟨hgn, hlt2, hge2, hP, hap, hgl, hsame⟩ := HQ.out
        exact Lib.hid (hsame.trans' ((HC3.out.trans HC4.out).trans HC5.out) (fun i hi e => by have := hge2 _ e; omega))
      go_wp2_with fail
      have bJ : Blk (w5.alloc (.cells #[.pointer none, .pointer none, .slice none 0 0] 41)) w5.heap.size #[.pointer none, .pointer none, .slice none 0 0] 41 := Blk.new _ _ _
      have sJ : Same w5 (w5.alloc (.cells #[.pointer none, .pointer none, .slice none 0 0] 41)) := (Chg.refl _ _).alloc _
      generalize w5.alloc (.cells #[.pointer none, .pointer none, .slice none 0 0] 41) = W4 at *
      generalize w5.heap.size = bj at *
      refine (joint_values_none _).mono ?_
      rintro e _ ⟨rfl, rfl⟩
      go_wp2_with fail
      refine (joint_values_bare _ _ _ _ bJ).mono ?_
      rintro e _ ⟨rfl, rfl⟩
      go_wp2_with fail
      refine (joint_future_none _).mono ?_
      rintro e _ ⟨rfl, rfl⟩
      go_wp2_with fail
      refine (joint_future _ _ _ _ _ none bJ rfl).mono ?_
      rintro e _ ⟨rfl, rfl⟩
      have hE4 : ErrType W4 ∧ 0 < W4.heap.size := ⟨HE.out.1.same ((HS3.out).trans sJ) HE.out.2, by have := HE.out.2; have := ((HS3.out).trans sJ).size; omega⟩
      have HSJ := Lib.hid sJ
      have HS4 := Lib.hid ((HS3.out).trans sJ)
      clear bJ sJ
      have HE4 := Lib.hid hE4
      clear hE4
      go_wp2_with fail
      refine (class_any (l := []) (B := some (.errno 2)) W4 rfl HE4.out.1 HE4.out.2).mono ?_
      rintro e W5 ⟨rfl, s5⟩
      have HS5 := Lib.hid s5
      clear s5
      go_wp2_with fail
      refine (class_any (l := []) (B := some (.errno 2)) W5 rfl (HE4.out.1.same HS5.out HE4.out.2) (by have := HE4.out.2; have := HS5.out.size; omega)).mono ?_
      rintro e W6 ⟨rfl, s6⟩
      have HS6 := Lib.hid ((HS4.out.trans HS5.out).trans s6)
      have HS36 := Lib.hid ((HSJ.out.trans HS5.out).trans s6)
      clear s6
      go_wp2_with fail
      obtain ⟨hJ, hF1, _⟩ := HP3.out
      have hnot : ∀ q, wr.heap.size ≤ q → ¬ Any rs q := fun q hq h => by have := HQ.out.2.1 q h; omega
      have hj6 := (((HC4.out.trans HC5.out).blk hJ.joint (hnot _ hJ.nj)))
      have hj6 := HS36.out.blk hj6 (fun x => x)
      have hg6 := ((hF1.chg (HC4.out.trans HC5.out) (fun q hq => hnot q (hJ.ng q hq))).chg HS36.out (fun _ _ x => x))
      obtain ⟨pl1, hA6, _⟩ := hg6
      have HZ := Lib.hid (And.intro hj6 hA6)
      clear hJ hF1 hnot hj6 hA6
      refine (joint_future _ _ _ _ _ _ HZ.out.1 rfl).mono ?_
      rintro e _ ⟨rfl, rfl⟩
      go_wp2_with fail
      refine (fut_peek_open HZ.out.2).mono ?_
      rintro e _ ⟨rfl, rfl⟩
      go_wp2_with fail
      have hq6 := HP5.out.chg HS36.out (fun _ _ x => x)
      obtain ⟨pl3, hA7, _⟩ := hq6
      have HA7 := Lib.hid hA7
      clear hA7
      refine (fut_peek_open HA7.out).mono ?_
      rintro e W7 ⟨rfl, hw7⟩
      have HS7 := Lib.hid (hw7 ▸ HS6.out)
      clear hw7
      go_wp2_with fail
      refine (works16 W7).mono ?_
      rintro e W8 ⟨rfl, s8⟩
      have HS8 := Lib.hid (HS7.out.trans s8)
      clear s8
      go_wp2_with fail
      go_ret
      exact ⟨rfl, HS8.out⟩
theorem joinNone_mid_hi (many k nobody : Int) (n : Nat) (w : World) (hn : n ≤ 5) (hat : ∀ w, Calls Tryz.prog 9 #[.int .i64 many, .int .i64 6] w fun e w' => e = .returned (.int .i64 n) ∧ w = w') (hpos : 0 < n) (hnob : n ≤ nobody) (hk1 : 1 ≤ k) (hk2 : k ≤ n) (hg : ErrType w) (hl : 0 < w.heap.size) :
    Calls Tryz.prog 3 #[.int .i64 many, .int .i64 k, .int .i64 nobody] w fun e w' => e = .returned (.bool true) ∧ Same w w' := by
  have hcall := Lib.hid (hat w)
  have HE := Lib.hid (And.intro hg hl)
  obtain ⟨i0, hi, hz0, hz1, hz2⟩ := info_parts (P := Tryz.prog) (e := 24) (z := .pointer none) (size := 1) (bytes := 8) (by kernel_rfl)
  clear hat hg hl
  go_enter Tryz.func3, Tryz.ntmps3
  go_wp2_with fail
  refine hcall.out.mono ?_
  rintro e _ ⟨rfl, rfl⟩
  clear hcall
  go_wp2_with fail
  go_loopw [7, 8] (fun v i wr => ∃ rs : List FR, rs.length ≤ n ∧ i = .int .i64 rs.length ∧ FRow w wr v rs) (fun _ i _ => n - (intOf i).toNat)
  case atStart => exact ⟨[], by simp, rfl, FRow.nil w⟩
  case round =>
    obtain ⟨rs, hrs, rfl, hrow⟩ := hrel
    rename World => wr
    have HR := Lib.hid hrow
    by_cases hlt : rs.length < n
    · clear hrow
      go_wp2_with fail
      refine (fut_new_f wr).mono ?_
      rintro e w1 ⟨r, rfl, hF, hnew, s1⟩
      have hown := (HR.out.same_step s1).own
      have HF := Lib.hid (And.intro hF (And.intro hnew s1))
      have hz := s1.size
      have hzr := HR.out.same.size
      clear hF hnew s1
      go_wp2_with (at_builtin; refine wpList_append_own _ rfl _ _ 23 rfl w.heap.size 24 i0 (.pointer none) 1 8 Tryz.underlying23 hi hz0 hz1 hz2 rfl (by decide) _ _ _ rfl (hown.alloc _) ⟨w1.heap.size, 0, none⟩ 1 1 [.pointer (some ⟨r.b, 0, none⟩)] rfl rfl ?c1 ?c2 ?c3 ?c4 ?c5 ?c6)
      case c1 =>
        intro j u hj
        rcases j with _ | j
        · simp at hj; subst hj; exact (Blk.new w1 _ _).cellAt 0 rfl
        · simp at hj
      case c2 => intro u hu; simp at hu; subst hu; rfl
      case c3 => unfold maxLen; omega
      case c4 => omega
      case c5 => simp; omega
      case c6 =>
        intro v' w2 ho hgr hne
        have hrow' : FRow w w2 v' (rs ++ [r]) := by
          obtain ⟨hF, hnew, s1⟩ := HF.out
          exact ((HR.out.same_step s1).same_step ((Chg.refl _ _).alloc _)).step (hF.chg (S := fun _ => False) ((Chg.refl _ _).alloc _) (fun _ _ x => x)) (fun k hk => Nat.le_trans hzr (hnew k hk)) ⟨wr.heap.size, fun x hx k hk => (HR.out.fut x hx).lt k hk, hnew⟩ ho hgr
        have HR' := Lib.hid hrow'
        clear hrow' ho hgr hne hown HF HR hz hzr
        go_wp2_with fail
        go_roundw
        case rel =>
          have hl : ((rs ++ [r]).length : Int) = rs.length + 1 := by simp
          first | exact ⟨rs ++ [r], by simp; omega, by rw [hl], HR'.out⟩ | exact ⟨rs ++ [r], by simp; omega, by rw [hl], HR'.out, trivial⟩
        case measure => simp [intOf]; omega
    · obtain rfl : rs.length = n := by omega
      clear hrow
      have HN := Lib.hid hnob
      clear hnob
      obtain ⟨g, c, cur, rfl, hgw, hB, hcur⟩ := HR.out.blk hpos
      have hrow := HR.out
      have hgn : ¬ Any rs g := fun ⟨r, hr, hx⟩ => (hrow.fut r hr).ne_blk hB (by decide) (by decide) (by decide) (by decide) hx
      have hlt2 : ∀ q, Any rs q → q < wr.heap.size := any_lt (fun r hr => (hrow.fut r hr).lt)
      have hge2 : ∀ q, Any rs q → w.heap.size ≤ q := fun q ⟨r, hr, hq⟩ => hrow.new r hr q hq
      have hP := hrow.ptrs (by omega)
      have hA := all_open wr _ rs (fun _ => []) (fun _ => by simp) hP hrow.apart (fun j hj => hrow.fut _ (List.getElem_mem hj)) (hlb_of hgn hB.lt)
      have HA := Lib.hid hA
      have HQ := Lib.hid (And.intro hgn (And.intro hlt2 (And.intro hge2 (And.intro hP (And.intro hrow.apart (And.intro hB.lt hrow.same))))))
      clear hgw hB hcur hrow hgn hlt2 hge2 hP hA
      have hnn := HN.out
      have h0b : ((rs.length : Int) == 0) = false := beq_eq_false_iff_ne.2 (by omega)
      have hgb : decide (0 < (rs.length : Int)) = true := by simp; omega
      clear HN
      go_wp2_with fail
      refine HA.out.mono ?_
      rintro e w3 ⟨hpost, _⟩
      obtain ⟨g1, kl, ke, kj, kx, rfl, hJ, hF1, hM, hC3⟩ := hpost (by omega)
      obtain ⟨fs1, hfl1, hff1⟩ := more_choice (n := 0) (fun _ => by simp) hM
      have HP3 := Lib.hid (And.intro hJ (And.intro hF1 hC3))
      have HB3 : Hid (Calls Tryz.prog 12 #[.pointer none, .slice (some ⟨g, 0, none⟩) rs.length c] w3 (AnyDone w3 rs fs1)) := by
        refine Lib.hid ?_
        obtain ⟨hgn, hlt2, hge2, hP, hap, hgl, _⟩ := HQ.out
        exact any_open w3 _ rs fs1 (fun j => by have := hfl1 j; omega) (hP.chg hC3 (fun a m c e => by cases e; exact hgn)) hap hff1 (hlb_of hgn (Nat.lt_of_lt_of_le hgl hC3.size)) hpos
      have HC3 := Lib.hid hC3
      have HFL := Lib.hid hfl1
      clear hpost hJ hF1 hM hC3 hfl1 hff1 HA
      go_wp2_with fail
      refine HB3.out.mono ?_
      rintro e w4 ⟨g2, k6, rfl, hF2, hB6, hg2, hk6, hM4, hC4⟩
      obtain ⟨fs2, hfl2, hff2⟩ := more_choice (n := 1) (fun j => by have := HFL.out j; omega) hM4
      have hP4 : Ptrs w4 (.slice (some ⟨g, 0, none⟩) rs.length c) (rs.map fun r => some ⟨r.b, 0, none⟩) := by
        obtain ⟨hgn, hlt2, hge2, hP, hap, hgl, _⟩ := HQ.out
        exact (hP.chg HC3.out (fun a m c e => by cases e; exact hgn)).chg hC4 (fun a m c e => by cases e; exact hgn)
      have hmade : ∀ p ∈ (rs.map fun r => some (⟨r.b, 0, none⟩ : Addr)), MadeP w4 p := fun p hp => by
        obtain ⟨r, hr, rfl⟩ := List.mem_map.1 hp
        obtain ⟨j, hj, rfl⟩ := List.getElem_of_mem hr
        exact (hff2 j hj).n.made
      have HC4 := Lib.hid hC4
      have HP4 := Lib.hid (And.intro hF2 (And.intro hfl2 (And.intro hff2 hP4)))
      have HMD := Lib.hid hmade
      clear hF2 hB6 hg2 hk6 hM4 hC4 hfl2 hff2 hP4 HB3 hmade
      go_wp2_with fail
      have hkz : (k == 0) = false := beq_eq_false_iff_ne.2 (by omega)
      have hq := quorum_f w4 k _ rs fs2 (fun j => by have := HP4.out.2.1 j; omega) HP4.out.2.2.2 HQ.out.2.2.2.2.1 HP4.out.2.2.1 (hlb_of HQ.out.1 (Nat.lt_of_lt_of_le HQ.out.2.2.2.2.2.1 (HC3.out.trans HC4.out).size)) hk1 (by omega)
      have HK := Lib.hid hq
      clear hq
      refine HK.out.mono ?_
      rintro e w5 ⟨g3, gd, kg, kgd, kw, rfl, hQ, hF3, hg3, hgd, hM5, hC5⟩
      have HC5 := Lib.hid hC5
      have HP5 := Lib.hid hF3
      clear hQ hF3 hg3 hgd hM5 hC5 HK
      have HS3 : Hid (Same w w5) := by
        obtain ⟨hgn, hlt2, hge2, hP, hap, hgl, hsame⟩ := HQ.out
        exact Lib.hid (hsame.trans' ((HC3.out.trans HC4.out).trans HC5.out) (fun i hi e => by have := hge2 _ e; omega))
      go_wp2_with fail
      have bJ : Blk (w5.alloc (.cells #[.pointer none, .pointer none, .slice none 0 0] 41)) w5.heap.size #[.pointer none, .pointer none, .slice none 0 0] 41 := Blk.new _ _ _
      have sJ : Same w5 (w5.alloc (.cells #[.pointer none, .pointer none, .slice none 0 0] 41)) := (Chg.refl _ _).alloc _
      generalize w5.alloc (.cells #[.pointer none, .pointer none, .slice none 0 0] 41) = W4 at *
      generalize w5.heap.size = bj at *
      refine (joint_values_none _).mono ?_
      rintro e _ ⟨rfl, rfl⟩
      go_wp2_with fail
      refine (joint_values_bare _ _ _ _ bJ).mono ?_
      rintro e _ ⟨rfl, rfl⟩
      go_wp2_with fail
      refine (joint_future_none _).mono ?_
      rintro e _ ⟨rfl, rfl⟩
      go_wp2_with fail
      refine (joint_future _ _ _ _ _ none bJ rfl).mono ?_
      rintro e _ ⟨rfl, rfl⟩
      have hE4 : ErrType W4 ∧ 0 < W4.heap.size := ⟨HE.out.1.same ((HS3.out).trans sJ) HE.out.2, by have := HE.out.2; have := ((HS3.out).trans sJ).size; omega⟩
      have HSJ := Lib.hid sJ
      have HS4 := Lib.hid ((HS3.out).trans sJ)
      clear bJ sJ
      have HE4 := Lib.hid hE4
      clear hE4
      go_wp2_with fail
      refine (class_any (l := []) (B := some (.errno 2)) W4 rfl HE4.out.1 HE4.out.2).mono ?_
      rintro e W5 ⟨rfl, s5⟩
      have HS5 := Lib.hid s5
      clear s5
      go_wp2_with fail
      refine (class_any (l := []) (B := some (.errno 2)) W5 rfl (HE4.out.1.same HS5.out HE4.out.2) (by have := HE4.out.2; have := HS5.out.size; omega)).mono ?_
      rintro e W6 ⟨rfl, s6⟩
      have HS6 := Lib.hid ((HS4.out.trans HS5.out).trans s6)
      have HS36 := Lib.hid ((HSJ.out.trans HS5.out).trans s6)
      clear s6
      go_wp2_with fail
      obtain ⟨hJ, hF1, _⟩ := HP3.out
      have hnot : ∀ q, wr.heap.size ≤ q → ¬ Any rs q := fun q hq h => by have := HQ.out.2.1 q h; omega
      have hj6 := (((HC4.out.trans HC5.out).blk hJ.joint (hnot _ hJ.nj)))
      have hj6 := HS36.out.blk hj6 (fun x => x)
      have hg6 := ((hF1.chg (HC4.out.trans HC5.out) (fun q hq => hnot q (hJ.ng q hq))).chg HS36.out (fun _ _ x => x))
      obtain ⟨pl1, hA6, _⟩ := hg6
      have HZ := Lib.hid (And.intro hj6 hA6)
      clear hJ hF1 hnot hj6 hA6
      refine (joint_future _ _ _ _ _ _ HZ.out.1 rfl).mono ?_
      rintro e _ ⟨rfl, rfl⟩
      go_wp2_with fail
      refine (fut_peek_open HZ.out.2).mono ?_
      rintro e _ ⟨rfl, rfl⟩
      go_wp2_with fail
      have hq6 := HP5.out.chg HS36.out (fun _ _ x => x)
      obtain ⟨pl3, hA7, _⟩ := hq6
      have HA7 := Lib.hid hA7
      clear hA7
      refine (fut_peek_open HA7.out).mono ?_
      rintro e W7 ⟨rfl, hw7⟩
      have HS7 := Lib.hid (hw7 ▸ HS6.out)
      clear hw7
      go_wp2_with fail
      refine (works16 W7).mono ?_
      rintro e W8 ⟨rfl, s8⟩
      have HS8 := Lib.hid (HS7.out.trans s8)
      clear s8
      go_wp2_with fail
      go_ret
      exact ⟨rfl, HS8.out⟩
theorem joinNone_neg_lo (many k nobody : Int) (n : Nat) (w : World) (hn : n ≤ 5) (hat : ∀ w, Calls Tryz.prog 9 #[.int .i64 many, .int .i64 6] w fun e w' => e = .returned (.int .i64 n) ∧ w = w') (hpos : 0 < n) (hnob : nobody < 0) (hk1 : k < 0) (hg : ErrType w) (hl : 0 < w.heap.size) :
    Calls Tryz.prog 3 #[.int .i64 many, .int .i64 k, .int .i64 nobody] w fun e w' => e = .returned (.bool true) ∧ Same w w' := by
  have hcall := Lib.hid (hat w)
  have HE := Lib.hid (And.intro hg hl)
  obtain ⟨i0, hi, hz0, hz1, hz2⟩ := info_parts (P := Tryz.prog) (e := 24) (z := .pointer none) (size := 1) (bytes := 8) (by kernel_rfl)
  clear hat hg hl
  go_enter Tryz.func3, Tryz.ntmps3
  go_wp2_with fail
  refine hcall.out.mono ?_
  rintro e _ ⟨rfl, rfl⟩
  clear hcall
  go_wp2_with fail
  go_loopw [7, 8] (fun v i wr => ∃ rs : List FR, rs.length ≤ n ∧ i = .int .i64 rs.length ∧ FRow w wr v rs) (fun _ i _ => n - (intOf i).toNat)
  case atStart => exact ⟨[], by simp, rfl, FRow.nil w⟩
  case round =>
    obtain ⟨rs, hrs, rfl, hrow⟩ := hrel
    rename World => wr
    have HR := Lib.hid hrow
    by_cases hlt : rs.length < n
    · clear hrow
      go_wp2_with fail
      refine (fut_new_f wr).mono ?_
      rintro e w1 ⟨r, rfl, hF, hnew, s1⟩
      have hown := (HR.out.same_step s1).own
      have HF := Lib.hid (And.intro hF (And.intro hnew s1))
      have hz := s1.size
      have hzr := HR.out.same.size
      clear hF hnew s1
      go_wp2_with (at_builtin; refine wpList_append_own _ rfl _ _ 23 rfl w.heap.size 24 i0 (.pointer none) 1 8 Tryz.underlying23 hi hz0 hz1 hz2 rfl (by decide) _ _ _ rfl (hown.alloc _) ⟨w1.heap.size, 0, none⟩ 1 1 [.pointer (some ⟨r.b, 0, none⟩)] rfl rfl ?c1 ?c2 ?c3 ?c4 ?c5 ?c6)
      case c1 =>
        intro j u hj
        rcases j with _ | j
        · simp at hj; subst hj; exact (Blk.new w1 _ _).cellAt 0 rfl
        · simp at hj
      case c2 => intro u hu; simp at hu; subst hu; rfl
      case c3 => unfold maxLen; omega
      case c4 => omega
      case c5 => simp; omega
      case c6 =>
        intro v' w2 ho hgr hne
        have hrow' : FRow w w2 v' (rs ++ [r]) := by
          obtain ⟨hF, hnew, s1⟩ := HF.out
          exact ((HR.out.same_step s1).same_step ((Chg.refl _ _).alloc _)).step (hF.chg (S := fun _ => False) ((Chg.refl _ _).alloc _) (fun _ _ x => x)) (fun k hk => Nat.le_trans hzr (hnew k hk)) ⟨wr.heap.size, fun x hx k hk => (HR.out.fut x hx).lt k hk, hnew⟩ ho hgr
        have HR' := Lib.hid hrow'
        clear hrow' ho hgr hne hown HF HR hz hzr
        go_wp2_with fail
        go_roundw
        case rel =>
          have hl : ((rs ++ [r]).length : Int) = rs.length + 1 := by simp
          first | exact ⟨rs ++ [r], by simp; omega, by rw [hl], HR'.out⟩ | exact ⟨rs ++ [r], by simp; omega, by rw [hl], HR'.out, trivial⟩
        case measure => simp [intOf]; omega
    · obtain rfl : rs.length = n := by omega
      clear hrow
      have HN := Lib.hid hnob
      clear hnob
      obtain ⟨g, c, cur, rfl, hgw, hB, hcur⟩ := HR.out.blk hpos
      have hrow := HR.out
      have hgn : ¬ Any rs g := fun ⟨r, hr, hx⟩ => (hrow.fut r hr).ne_blk hB (by decide) (by decide) (by decide) (by decide) hx
      have hlt2 : ∀ q, Any rs q → q < wr.heap.size := any_lt (fun r hr => (hrow.fut r hr).lt)
      have hge2 : ∀ q, Any rs q → w.heap.size ≤ q := fun q ⟨r, hr, hq⟩ => hrow.new r hr q hq
      have hP := hrow.ptrs (by omega)
      have hA := all_open wr _ rs (fun _ => []) (fun _ => by simp) hP hrow.apart (fun j hj => hrow.fut _ (List.getElem_mem hj)) (hlb_of hgn hB.lt)
      have HA := Lib.hid hA
      have HQ := Lib.hid (And.intro hgn (And.intro hlt2 (And.intro hge2 (And.intro hP (And.intro hrow.apart (And.intro hB.lt hrow.same))))))
      clear hgw hB hcur hrow hgn hlt2 hge2 hP hA
      have hnn := HN.out
      have h0b : ((rs.length : Int) == 0) = false := beq_eq_false_iff_ne.2 (by omega)
      have hgb : decide (0 < (rs.length : Int)) = true := by simp; omega
      clear HN
      go_wp2_with fail
      refine HA.out.mono ?_
      rintro e w3 ⟨hpost, _⟩
      obtain ⟨g1, kl, ke, kj, kx, rfl, hJ, hF1, hM, hC3⟩ := hpost (by omega)
      obtain ⟨fs1, hfl1, hff1⟩ := more_choice (n := 0) (fun _ => by simp) hM
      have HP3 := Lib.hid (And.intro hJ (And.intro hF1 hC3))
      have HB3 : Hid (Calls Tryz.prog 12 #[.pointer none, .slice (some ⟨g, 0, none⟩) rs.length c] w3 (AnyDone w3 rs fs1)) := by
        refine Lib.hid ?_
        obtain ⟨hgn, hlt2, hge2, hP, hap, hgl, _⟩ := HQ.out
        exact any_open w3 _ rs fs1 (fun j => by have := hfl1 j; omega) (hP.chg hC3 (fun a m c e => by cases e; exact hgn)) hap hff1 (hlb_of hgn (Nat.lt_of_lt_of_le hgl hC3.size)) hpos
      have HC3 := Lib.hid hC3
      have HFL := Lib.hid hfl1
      clear hpost hJ hF1 hM hC3 hfl1 hff1 HA
      go_wp2_with fail
      refine HB3.out.mono ?_
      rintro e w4 ⟨g2, k6, rfl, hF2, hB6, hg2, hk6, hM4, hC4⟩
      obtain ⟨fs2, hfl2, hff2⟩ := more_choice (n := 1) (fun j => by have := HFL.out j; omega) hM4
      have hP4 : Ptrs w4 (.slice (some ⟨g, 0, none⟩) rs.length c) (rs.map fun r => some ⟨r.b, 0, none⟩) := by
        obtain ⟨hgn, hlt2, hge2, hP, hap, hgl, _⟩ := HQ.out
        exact (hP.chg HC3.out (fun a m c e => by cases e; exact hgn)).chg hC4 (fun a m c e => by cases e; exact hgn)
      have hmade : ∀ p ∈ (rs.map fun r => some (⟨r.b, 0, none⟩ : Addr)), MadeP w4 p := fun p hp => by
        obtain ⟨r, hr, rfl⟩ := List.mem_map.1 hp
        obtain ⟨j, hj, rfl⟩ := List.getElem_of_mem hr
        exact (hff2 j hj).n.made
      have HC4 := Lib.hid hC4
      have HP4 := Lib.hid (And.intro hF2 (And.intro hfl2 (And.intro hff2 hP4)))
      have HMD := Lib.hid hmade
      clear hF2 hB6 hg2 hk6 hM4 hC4 hfl2 hff2 hP4 HB3 hmade
      go_wp2_with fail
      have hq := quorum_arg w4 k _ _ HP4.out.2.2.2 HMD.out (by simp only [List.length_map]; omega)
      have HK := Lib.hid hq
      clear hq
      refine HK.out.mono ?_
      rintro e w5 ⟨rfl, hC5⟩
      have HC5 := Lib.hid (hC5.mono (S' := Any rs) (fun _ _ x => x.elim))
      clear hC5 HK
      have HS3 : Hid (Same w w5) := by
        obtain ⟨hgn, hlt2, hge2, hP, hap, hgl, hsame⟩ := HQ.out
        exact Lib.hid (hsame.trans' ((HC3.out.trans HC4.out).trans HC5.out) (fun i hi e => by have := hge2 _ e; omega))
      go_wp2_with fail
      have bJ : Blk (w5.alloc (.cells #[.pointer none, .pointer none, .slice none 0 0] 41)) w5.heap.size #[.pointer none, .pointer none, .slice none 0 0] 41 := Blk.new _ _ _
      have sJ : Same w5 (w5.alloc (.cells #[.pointer none, .pointer none, .slice none 0 0] 41)) := (Chg.refl _ _).alloc _
      generalize w5.alloc (.cells #[.pointer none, .pointer none, .slice none 0 0] 41) = W4 at *
      generalize w5.heap.size = bj at *
      refine (joint_values_none _).mono ?_
      rintro e _ ⟨rfl, rfl⟩
      go_wp2_with fail
      refine (joint_values_bare _ _ _ _ bJ).mono ?_
      rintro e _ ⟨rfl, rfl⟩
      go_wp2_with fail
      refine (joint_future_none _).mono ?_
      rintro e _ ⟨rfl, rfl⟩
      go_wp2_with fail
      refine (joint_future _ _ _ _ _ none bJ rfl).mono ?_
      rintro e _ ⟨rfl, rfl⟩
      have hE4 : ErrType W4 ∧ 0 < W4.heap.size := ⟨HE.out.1.same ((HS3.out).trans sJ) HE.out.2, by have := HE.out.2; have := ((HS3.out).trans sJ).size; omega⟩
      have HSJ := Lib.hid sJ
      have HS4 := Lib.hid ((HS3.out).trans sJ)
      clear bJ sJ
      have HE4 := Lib.hid hE4
      clear hE4
      go_wp2_with fail
      refine (class_any (l := []) (B := some (.errno 2)) W4 rfl HE4.out.1 HE4.out.2).mono ?_
      rintro e W5 ⟨rfl, s5⟩
      have HS5 := Lib.hid s5
      clear s5
      go_wp2_with fail
      refine (class_any (l := []) (B := some (.errno 2)) W5 rfl (HE4.out.1.same HS5.out HE4.out.2) (by have := HE4.out.2; have := HS5.out.size; omega)).mono ?_
      rintro e W6 ⟨rfl, s6⟩
      have HS6 := Lib.hid ((HS4.out.trans HS5.out).trans s6)
      have HS36 := Lib.hid ((HSJ.out.trans HS5.out).trans s6)
      clear s6
      go_wp2_with fail
      obtain ⟨hJ, hF1, _⟩ := HP3.out
      have hnot : ∀ q, wr.heap.size ≤ q → ¬ Any rs q := fun q hq h => by have := HQ.out.2.1 q h; omega
      have hj6 := (((HC4.out.trans HC5.out).blk hJ.joint (hnot _ hJ.nj)))
      have hj6 := HS36.out.blk hj6 (fun x => x)
      have hg6 := ((hF1.chg (HC4.out.trans HC5.out) (fun q hq => hnot q (hJ.ng q hq))).chg HS36.out (fun _ _ x => x))
      obtain ⟨pl1, hA6, _⟩ := hg6
      have HZ := Lib.hid (And.intro hj6 hA6)
      clear hJ hF1 hnot hj6 hA6
      refine (joint_future _ _ _ _ _ _ HZ.out.1 rfl).mono ?_
      rintro e _ ⟨rfl, rfl⟩
      go_wp2_with fail
      refine (fut_peek_open HZ.out.2).mono ?_
      rintro e _ ⟨rfl, rfl⟩
      go_wp2_with fail
      refine (fut_none_peek _ none (.inl rfl)).mono ?_
      rintro e W7 ⟨rfl, hw7⟩
      have HS7 := Lib.hid (hw7 ▸ HS6.out)
      clear hw7
      go_wp2_with fail
      refine (works16 W7).mono ?_
      rintro e W8 ⟨rfl, s8⟩
      have HS8 := Lib.hid (HS7.out.trans s8)
      clear s8
      go_wp2_with fail
      go_ret
      exact ⟨rfl, HS8.out⟩
theorem joinNone_neg_hi (many k nobody : Int) (n : Nat) (w : World) (hn : n ≤ 5) (hat : ∀ w, Calls Tryz.prog 9 #[.int .i64 many, .int .i64 6] w fun e w' => e = .returned (.int .i64 n) ∧ w = w') (hpos : 0 < n) (hnob : n ≤ nobody) (hk1 : k < 0) (hg : ErrType w) (hl : 0 < w.heap.size) :
    Calls Tryz.prog 3 #[.int .i64 many, .int .i64 k, .int .i64 nobody] w fun e w' => e = .returned (.bool true) ∧ Same w w' := by
  have hcall := Lib.hid (hat w)
  have HE := Lib.hid (And.intro hg hl)
  obtain ⟨i0, hi, hz0, hz1, hz2⟩ := info_parts (P := Tryz.prog) (e := 24) (z := .pointer none) (size := 1) (bytes := 8) (by kernel_rfl)
  clear hat hg hl
  go_enter Tryz.func3, Tryz.ntmps3
  go_wp2_with fail
  refine hcall.out.mono ?_
  rintro e _ ⟨rfl, rfl⟩
  clear hcall
  go_wp2_with fail
  go_loopw [7, 8] (fun v i wr => ∃ rs : List FR, rs.length ≤ n ∧ i = .int .i64 rs.length ∧ FRow w wr v rs) (fun _ i _ => n - (intOf i).toNat)
  case atStart => exact ⟨[], by simp, rfl, FRow.nil w⟩
  case round =>
    obtain ⟨rs, hrs, rfl, hrow⟩ := hrel
    rename World => wr
    have HR := Lib.hid hrow
    by_cases hlt : rs.length < n
    · clear hrow
      go_wp2_with fail
      refine (fut_new_f wr).mono ?_
      rintro e w1 ⟨r, rfl, hF, hnew, s1⟩
      have hown := (HR.out.same_step s1).own
      have HF := Lib.hid (And.intro hF (And.intro hnew s1))
      have hz := s1.size
      have hzr := HR.out.same.size
      clear hF hnew s1
      go_wp2_with (at_builtin; refine wpList_append_own _ rfl _ _ 23 rfl w.heap.size 24 i0 (.pointer none) 1 8 Tryz.underlying23 hi hz0 hz1 hz2 rfl (by decide) _ _ _ rfl (hown.alloc _) ⟨w1.heap.size, 0, none⟩ 1 1 [.pointer (some ⟨r.b, 0, none⟩)] rfl rfl ?c1 ?c2 ?c3 ?c4 ?c5 ?c6)
      case c1 =>
        intro j u hj
        rcases j with _ | j
        · simp at hj; subst hj; exact (Blk.new w1 _ _).cellAt 0 rfl
        · simp at hj
      case c2 => intro u hu; simp at hu; subst hu; rfl
      case c3 => unfold maxLen; omega
      case c4 => omega
      case c5 => simp; omega
      case c6 =>
        intro v' w2 ho hgr hne
        have hrow' : FRow w w2 v' (rs ++ [r]) := by
          obtain ⟨hF, hnew, s1⟩ := HF.out
          exact ((HR.out.same_step s1).same_step ((Chg.refl _ _).alloc _)).step (hF.chg (S := fun _ => False) ((Chg.refl _ _).alloc _) (fun _ _ x => x)) (fun k hk => Nat.le_trans hzr (hnew k hk)) ⟨wr.heap.size, fun x hx k hk => (HR.out.fut x hx).lt k hk, hnew⟩ ho hgr
        have HR' := Lib.hid hrow'
        clear hrow' ho hgr hne hown HF HR hz hzr
        go_wp2_with fail
        go_roundw
        case rel =>
          have hl : ((rs ++ [r]).length : Int) = rs.length + 1 := by simp
          first | exact ⟨rs ++ [r], by simp; omega, by rw [hl], HR'.out⟩ | exact ⟨rs ++ [r], by simp; omega, by rw [hl], HR'.out, trivial⟩
        case measure => simp [intOf]; omega
    · obtain rfl : rs.length = n := by omega
      clear hrow
      have HN := Lib.hid hnob
      clear hnob
      obtain ⟨g, c, cur, rfl, hgw, hB, hcur⟩ := HR.out.blk hpos
      have hrow := HR.out
      have hgn : ¬ Any rs g := fun ⟨r, hr, hx⟩ => (hrow.fut r hr).ne_blk hB (by decide) (by decide) (by decide) (by decide) hx
      have hlt2 : ∀ q, Any rs q → q < wr.heap.size := any_lt (fun r hr => (hrow.fut r hr).lt)
      have hge2 : ∀ q, Any rs q → w.heap.size ≤ q := fun q ⟨r, hr, hq⟩ => hrow.new r hr q hq
      have hP := hrow.ptrs (by omega)
      have hA := all_open wr _ rs (fun _ => []) (fun _ => by simp) hP hrow.apart (fun j hj => hrow.fut _ (List.getElem_mem hj)) (hlb_of hgn hB.lt)
      have HA := Lib.hid hA
      have HQ := Lib.hid (And.intro hgn (And.intro hlt2 (And.intro hge2 (And.intro hP (And.intro hrow.apart (And.intro hB.lt hrow.same))))))
      clear hgw hB hcur hrow hgn hlt2 hge2 hP hA
      have hnn := HN.out
      have h0b : ((rs.length : Int) == 0) = false := beq_eq_false_iff_ne.2 (by omega)
      have hgb : decide (0 < (rs.length : Int)) = true := by simp; omega
      clear HN
      go_wp2_with fail
      refine HA.out.mono ?_
      rintro e w3 ⟨hpost, _⟩
      obtain ⟨g1, kl, ke, kj, kx, rfl, hJ, hF1, hM, hC3⟩ := hpost (by omega)
      obtain ⟨fs1, hfl1, hff1⟩ := more_choice (n := 0) (fun _ => by simp) hM
      have HP3 := Lib.hid (And.intro hJ (And.intro hF1 hC3))
      have HB3 : Hid (Calls Tryz.prog 12 #[.pointer none, .slice (some ⟨g, 0, none⟩) rs.length c] w3 (AnyDone w3 rs fs1)) := by
        refine Lib.hid ?_
        obtain ⟨hgn, hlt2, hge2, hP, hap, hgl, _⟩ := HQ.out
        exact any_open w3 _ rs fs1 (fun j => by have := hfl1 j; omega) (hP.chg hC3 (fun a m c e => by cases e; exact hgn)) hap hff1 (hlb_of hgn (Nat.lt_of_lt_of_le hgl hC3.size)) hpos
      have HC3 := Lib.hid hC3
      have HFL := Lib.hid hfl1
      clear hpost hJ hF1 hM hC3 hfl1 hff1 HA
      go_wp2_with fail
      refine HB3.out.mono ?_
      rintro e w4 ⟨g2, k6, rfl, hF2, hB6, hg2, hk6, hM4, hC4⟩
      obtain ⟨fs2, hfl2, hff2⟩ := more_choice (n := 1) (fun j => by have := HFL.out j; omega) hM4
      have hP4 : Ptrs w4 (.slice (some ⟨g, 0, none⟩) rs.length c) (rs.map fun r => some ⟨r.b, 0, none⟩) := by
        obtain ⟨hgn, hlt2, hge2, hP, hap, hgl, _⟩ := HQ.out
        exact (hP.chg HC3.out (fun a m c e => by cases e; exact hgn)).chg hC4 (fun a m c e => by cases e; exact hgn)
      have hmade : ∀ p ∈ (rs.map fun r => some (⟨r.b, 0, none⟩ : Addr)), MadeP w4 p := fun p hp => by
        obtain ⟨r, hr, rfl⟩ := List.mem_map.1 hp
        obtain ⟨j, hj, rfl⟩ := List.getElem_of_mem hr
        exact (hff2 j hj).n.made
      have HC4 := Lib.hid hC4
      have HP4 := Lib.hid (And.intro hF2 (And.intro hfl2 (And.intro hff2 hP4)))
      have HMD := Lib.hid hmade
      clear hF2 hB6 hg2 hk6 hM4 hC4 hfl2 hff2 hP4 HB3 hmade
      go_wp2_with fail
      have hq := quorum_arg w4 k _ _ HP4.out.2.2.2 HMD.out (by simp only [List.length_map]; omega)
      have HK := Lib.hid hq
      clear hq
      refine HK.out.mono ?_
      rintro e w5 ⟨rfl, hC5⟩
      have HC5 := Lib.hid (hC5.mono (S' := Any rs) (fun _ _ x => x.elim))
      clear hC5 HK
      have HS3 : Hid (Same w w5) := by
        obtain ⟨hgn, hlt2, hge2, hP, hap, hgl, hsame⟩ := HQ.out
        exact Lib.hid (hsame.trans' ((HC3.out.trans HC4.out).trans HC5.out) (fun i hi e => by have := hge2 _ e; omega))
      go_wp2_with fail
      have bJ : Blk (w5.alloc (.cells #[.pointer none, .pointer none, .slice none 0 0] 41)) w5.heap.size #[.pointer none, .pointer none, .slice none 0 0] 41 := Blk.new _ _ _
      have sJ : Same w5 (w5.alloc (.cells #[.pointer none, .pointer none, .slice none 0 0] 41)) := (Chg.refl _ _).alloc _
      generalize w5.alloc (.cells #[.pointer none, .pointer none, .slice none 0 0] 41) = W4 at *
      generalize w5.heap.size = bj at *
      refine (joint_values_none _).mono ?_
      rintro e _ ⟨rfl, rfl⟩
      go_wp2_with fail
      refine (joint_values_bare _ _ _ _ bJ).mono ?_
      rintro e _ ⟨rfl, rfl⟩
      go_wp2_with fail
      refine (joint_future_none _).mono ?_
      rintro e _ ⟨rfl, rfl⟩
      go_wp2_with fail
      refine (joint_future _ _ _ _ _ none bJ rfl).mono ?_
      rintro e _ ⟨rfl, rfl⟩
      have hE4 : ErrType W4 ∧ 0 < W4.heap.size := ⟨HE.out.1.same ((HS3.out).trans sJ) HE.out.2, by have := HE.out.2; have := ((HS3.out).trans sJ).size; omega⟩
      have HSJ := Lib.hid sJ
      have HS4 := Lib.hid ((HS3.out).trans sJ)
      clear bJ sJ
      have HE4 := Lib.hid hE4
      clear hE4
      go_wp2_with fail
      refine (class_any (l := []) (B := some (.errno 2)) W4 rfl HE4.out.1 HE4.out.2).mono ?_
      rintro e W5 ⟨rfl, s5⟩
      have HS5 := Lib.hid s5
      clear s5
      go_wp2_with fail
      refine (class_any (l := []) (B := some (.errno 2)) W5 rfl (HE4.out.1.same HS5.out HE4.out.2) (by have := HE4.out.2; have := HS5.out.size; omega)).mono ?_
      rintro e W6 ⟨rfl, s6⟩
      have HS6 := Lib.hid ((HS4.out.trans HS5.out).trans s6)
      have HS36 := Lib.hid ((HSJ.out.trans HS5.out).trans s6)
      clear s6
      go_wp2_with fail
      obtain ⟨hJ, hF1, _⟩ := HP3.out
      have hnot : ∀ q, wr.heap.size ≤ q → ¬ Any rs q := fun q hq h => by have := HQ.out.2.1 q h; omega
      have hj6 := (((HC4.out.trans HC5.out).blk hJ.joint (hnot _ hJ.nj)))
      have hj6 := HS36.out.blk hj6 (fun x => x)
      have hg6 := ((hF1.chg (HC4.out.trans HC5.out) (fun q hq => hnot q (hJ.ng q hq))).chg HS36.out (fun _ _ x => x))
      obtain ⟨pl1, hA6, _⟩ := hg6
      have HZ := Lib.hid (And.intro hj6 hA6)
      clear hJ hF1 hnot hj6 hA6
      refine (joint_future _ _ _ _ _ _ HZ.out.1 rfl).mono ?_
      rintro e _ ⟨rfl, rfl⟩
      go_wp2_with fail
      refine (fut_peek_open HZ.out.2).mono ?_
      rintro e _ ⟨rfl, rfl⟩
      go_wp2_with fail
      refine (fut_none_peek _ none (.inl rfl)).mono ?_
      rintro e W7 ⟨rfl, hw7⟩
      have HS7 := Lib.hid (hw7 ▸ HS6.out)
      clear hw7
      go_wp2_with fail
      refine (works16 W7).mono ?_
      rintro e W8 ⟨rfl, s8⟩
      have HS8 := Lib.hid (HS7.out.trans s8)
      clear s8
      go_wp2_with fail
      go_ret
      exact ⟨rfl, HS8.out⟩
theorem joinNone_big_lo (many k nobody : Int) (n : Nat) (w : World) (hn : n ≤ 5) (hat : ∀ w, Calls Tryz.prog 9 #[.int .i64 many, .int .i64 6] w fun e w' => e = .returned (.int .i64 n) ∧ w = w') (hpos : 0 < n) (hnob : nobody < 0) (hk1 : n < k) (hg : ErrType w) (hl : 0 < w.heap.size) :
    Calls Tryz.prog 3 #[.int .i64 many, .int .i64 k, .int .i64 nobody] w fun e w' => e = .returned (.bool true) ∧ Same w w' := by
  have hcall := Lib.hid (hat w)
  have HE := Lib.hid (And.intro hg hl)
  obtain ⟨i0, hi, hz0, hz1, hz2⟩ := info_parts (P := Tryz.prog) (e := 24) (z := .pointer none) (size := 1) (bytes := 8) (by kernel_rfl)
  clear hat hg hl
  go_enter Tryz.func3, Tryz.ntmps3
  go_wp2_with fail
  refine hcall.out.mono ?_
  rintro e _ ⟨rfl, rfl⟩
  clear hcall
  go_wp2_with fail
  go_loopw [7, 8] (fun v i wr => ∃ rs : List FR, rs.length ≤ n ∧ i = .int .i64 rs.length ∧ FRow w wr v rs) (fun _ i _ => n - (intOf i).toNat)
  case atStart => exact ⟨[], by simp, rfl, FRow.nil w⟩
  case round =>
    obtain ⟨rs, hrs, rfl, hrow⟩ := hrel
    rename World => wr
    have HR := Lib.hid hrow
    by_cases hlt : rs.length < n
    · clear hrow
      go_wp2_with fail
      refine (fut_new_f wr).mono ?_
      rintro e w1 ⟨r, rfl, hF, hnew, s1⟩
      have hown := (HR.out.same_step s1).own
      have HF := Lib.hid (And.intro hF (And.intro hnew s1))
      have hz := s1.size
      have hzr := HR.out.same.size
      clear hF hnew s1
      go_wp2_with (at_builtin; refine wpList_append_own _ rfl _ _ 23 rfl w.heap.size 24 i0 (.pointer none) 1 8 Tryz.underlying23 hi hz0 hz1 hz2 rfl (by decide) _ _ _ rfl (hown.alloc _) ⟨w1.heap.size, 0, none⟩ 1 1 [.pointer (some ⟨r.b, 0, none⟩)] rfl rfl ?c1 ?c2 ?c3 ?c4 ?c5 ?c6)
      case c1 =>
        intro j u hj
        rcases j with _ | j
        · simp at hj; subst hj; exact (Blk.new w1 _ _).cellAt 0 rfl
        · simp at hj
      case c2 => intro u hu; simp at hu; subst hu; rfl
      case c3 => unfold maxLen; omega
      case c4 => omega
      case c5 => simp; omega
      case c6 =>
        intro v' w2 ho hgr hne
        have hrow' : FRow w w2 v' (rs ++ [r]) := by
          obtain ⟨hF, hnew, s1⟩ := HF.out
          exact ((HR.out.same_step s1).same_step ((Chg.refl _ _).alloc _)).step (hF.chg (S := fun _ => False) ((Chg.refl _ _).alloc _) (fun _ _ x => x)) (fun k hk => Nat.le_trans hzr (hnew k hk)) ⟨wr.heap.size, fun x hx k hk => (HR.out.fut x hx).lt k hk, hnew⟩ ho hgr
        have HR' := Lib.hid hrow'
        clear hrow' ho hgr hne hown HF HR hz hzr
        go_wp2_with fail
        go_roundw
        case rel =>
          have hl : ((rs ++ [r]).length : Int) = rs.length + 1 := by simp
          first | exact ⟨rs ++ [r], by simp; omega, by rw [hl], HR'.out⟩ | exact ⟨rs ++ [r], by simp; omega, by rw [hl], HR'.out, trivial⟩
        case measure => simp [intOf]; omega
    · obtain rfl : rs.length = n := by omega
      clear hrow
      have HN := Lib.hid hnob
      clear hnob
      obtain ⟨g, c, cur, rfl, hgw, hB, hcur⟩ := HR.out.blk hpos
      have hrow := HR.out
      have hgn : ¬ Any rs g := fun ⟨r, hr, hx⟩ => (hrow.fut r hr).ne_blk hB (by decide) (by decide) (by decide) (by decide) hx
      have hlt2 : ∀ q, Any rs q → q < wr.heap.size := any_lt (fun r hr => (hrow.fut r hr).lt)
      have hge2 : ∀ q, Any rs q → w.heap.size ≤ q := fun q ⟨r, hr, hq⟩ => hrow.new r hr q hq
      have hP := hrow.ptrs (by omega)
      have hA := all_open wr _ rs (fun _ => []) (fun _ => by simp) hP hrow.apart (fun j hj => hrow.fut _ (List.getElem_mem hj)) (hlb_of hgn hB.lt)
      have HA := Lib.hid hA
      have HQ := Lib.hid (And.intro hgn (And.intro hlt2 (And.intro hge2 (And.intro hP (And.intro hrow.apart (And.intro hB.lt hrow.same))))))
      clear hgw hB hcur hrow hgn hlt2 hge2 hP hA
      have hnn := HN.out
      have h0b : ((rs.length : Int) == 0) = false := beq_eq_false_iff_ne.2 (by omega)
      have hgb : decide (0 < (rs.length : Int)) = true := by simp; omega
      clear HN
      go_wp2_with fail
      refine HA.out.mono ?_
      rintro e w3 ⟨hpost, _⟩
      obtain ⟨g1, kl, ke, kj, kx, rfl, hJ, hF1, hM, hC3⟩ := hpost (by omega)
      obtain ⟨fs1, hfl1, hff1⟩ := more_choice (n := 0) (fun _ => by simp) hM
      have HP3 := Lib.hid (And.intro hJ (And.intro hF1 hC3))
      have HB3 : Hid (Calls Tryz.prog 12 #[.pointer none, .slice (some ⟨g, 0, none⟩) rs.length c] w3 (AnyDone w3 rs fs1)) := by
        refine Lib.hid ?_
        obtain ⟨hgn, hlt2, hge2, hP, hap, hgl, _⟩ := HQ.out
        exact any_open w3 _ rs fs1 (fun j => by have := hfl1 j; omega) (hP.chg hC3 (fun a m c e => by cases e; exact hgn)) hap hff1 (hlb_of hgn (Nat.lt_of_lt_of_le hgl hC3.size)) hpos
      have HC3 := Lib.hid hC3
      have HFL := Lib.hid hfl1
      clear hpost hJ hF1 hM hC3 hfl1 hff1 HA
      go_wp2_with fail
      refine HB3.out.mono ?_
      rintro e w4 ⟨g2, k6, rfl, hF2, hB6, hg2, hk6, hM4, hC4⟩
      obtain ⟨fs2, hfl2, hff2⟩ := more_choice (n := 1) (fun j => by have := HFL.out j; omega) hM4
      have hP4 : Ptrs w4 (.slice (some ⟨g, 0, none⟩) rs.length c) (rs.map fun r => some ⟨r.b, 0, none⟩) := by
        obtain ⟨hgn, hlt2, hge2, hP, hap, hgl, _⟩ := HQ.out
        exact (hP.chg HC3.out (fun a m c e => by cases e; exact hgn)).chg hC4 (fun a m c e => by cases e; exact hgn)
      have hmade : ∀ p ∈ (rs.map fun r => some (⟨r.b, 0, none⟩ : Addr)), MadeP w4 p := fun p hp => by
        obtain ⟨r, hr, rfl⟩ := List.mem_map.1 hp
        obtain ⟨j, hj, rfl⟩ := List.getElem_of_mem hr
        exact (hff2 j hj).n.made
      have HC4 := Lib.hid hC4
      have HP4 := Lib.hid (And.intro hF2 (And.intro hfl2 (And.intro hff2 hP4)))
      have HMD := Lib.hid hmade
      clear hF2 hB6 hg2 hk6 hM4 hC4 hfl2 hff2 hP4 HB3 hmade
      go_wp2_with fail
      have hq := quorum_arg w4 k _ _ HP4.out.2.2.2 HMD.out (by simp only [List.length_map]; omega)
      have HK := Lib.hid hq
      clear hq
      refine HK.out.mono ?_
      rintro e w5 ⟨rfl, hC5⟩
      have HC5 := Lib.hid (hC5.mono (S' := Any rs) (fun _ _ x => x.elim))
      clear hC5 HK
      have HS3 : Hid (Same w w5) := by
        obtain ⟨hgn, hlt2, hge2, hP, hap, hgl, hsame⟩ := HQ.out
        exact Lib.hid (hsame.trans' ((HC3.out.trans HC4.out).trans HC5.out) (fun i hi e => by have := hge2 _ e; omega))
      go_wp2_with fail
      have bJ : Blk (w5.alloc (.cells #[.pointer none, .pointer none, .slice none 0 0] 41)) w5.heap.size #[.pointer none, .pointer none, .slice none 0 0] 41 := Blk.new _ _ _
      have sJ : Same w5 (w5.alloc (.cells #[.pointer none, .pointer none, .slice none 0 0] 41)) := (Chg.refl _ _).alloc _
      generalize w5.alloc (.cells #[.pointer none, .pointer none, .slice none 0 0] 41) = W4 at *
      generalize w5.heap.size = bj at *
      refine (joint_values_none _).mono ?_
      rintro e _ ⟨rfl, rfl⟩
      go_wp2_with fail
      refine (joint_values_bare _ _ _ _ bJ).mono ?_
      rintro e _ ⟨rfl, rfl⟩
      go_wp2_with fail
      refine (joint_future_none _).mono ?_
      rintro e _ ⟨rfl, rfl⟩
      go_wp2_with fail
      refine (joint_future _ _ _ _ _ none bJ rfl).mono ?_
      rintro e _ ⟨rfl, rfl⟩
      have hE4 : ErrType W4 ∧ 0 < W4.heap.size := ⟨HE.out.1.same ((HS3.out).trans sJ) HE.out.2, by have := HE.out.2; have := ((HS3.out).trans sJ).size; omega⟩
      have HSJ := Lib.hid sJ
      have HS4 := Lib.hid ((HS3.out).trans sJ)
      clear bJ sJ
      have HE4 := Lib.hid hE4
      clear hE4
      go_wp2_with fail
      refine (class_any (l := []) (B := some (.errno 2)) W4 rfl HE4.out.1 HE4.out.2).mono ?_
      rintro e W5 ⟨rfl, s5⟩
      have HS5 := Lib.hid s5
      clear s5
      go_wp2_with fail
      refine (class_any (l := []) (B := some (.errno 2)) W5 rfl (HE4.out.1.same HS5.out HE4.out.2) (by have := HE4.out.2; have := HS5.out.size; omega)).mono ?_
      rintro e W6 ⟨rfl, s6⟩
      have HS6 := Lib.hid ((HS4.out.trans HS5.out).trans s6)
      have HS36 := Lib.hid ((HSJ.out.trans HS5.out).trans s6)
      clear s6
      go_wp2_with fail
      obtain ⟨hJ, hF1, _⟩ := HP3.out
      have hnot : ∀ q, wr.heap.size ≤ q → ¬ Any rs q := fun q hq h => by have := HQ.out.2.1 q h; omega
      have hj6 := (((HC4.out.trans HC5.out).blk hJ.joint (hnot _ hJ.nj)))
      have hj6 := HS36.out.blk hj6 (fun x => x)
      have hg6 := ((hF1.chg (HC4.out.trans HC5.out) (fun q hq => hnot q (hJ.ng q hq))).chg HS36.out (fun _ _ x => x))
      obtain ⟨pl1, hA6, _⟩ := hg6
      have HZ := Lib.hid (And.intro hj6 hA6)
      clear hJ hF1 hnot hj6 hA6
      refine (joint_future _ _ _ _ _ _ HZ.out.1 rfl).mono ?_
      rintro e _ ⟨rfl, rfl⟩
      go_wp2_with fail
      refine (fut_peek_open HZ.out.2).mono ?_
      rintro e _ ⟨rfl, rfl⟩
      go_wp2_with fail
      refine (fut_none_peek _ none (.inl rfl)).mono ?_
      rintro e W7 ⟨rfl, hw7⟩
      have HS7 := Lib.hid (hw7 ▸ HS6.out)
      clear hw7
      go_wp2_with fail
      refine (works16 W7).mono ?_
      rintro e W8 ⟨rfl, s8⟩
      have HS8 := Lib.hid (HS7.out.trans s8)
      clear s8
      go_wp2_with fail
      go_ret
      exact ⟨rfl, HS8.out⟩
theorem joinNone_big_hi (many k nobody : Int) (n : Nat) (w : World) (hn : n ≤ 5) (hat : ∀ w, Calls Tryz.prog 9 #[.int .i64 many, .int .i64 6] w fun e w' => e = .returned (.int .i64 n) ∧ w = w') (hpos : 0 < n) (hnob : n ≤ nobody) (hk1 : n < k) (hg : ErrType w) (hl : 0 < w.heap.size) :
    Calls Tryz.prog 3 #[.int .i64 many, .int .i64 k, .int .i64 nobody] w fun e w' => e = .returned (.bool true) ∧ Same w w' := by
  have hcall := Lib.hid (hat w)
  have HE := Lib.hid (And.intro hg hl)
  obtain ⟨i0, hi, hz0, hz1, hz2⟩ := info_parts (P := Tryz.prog) (e := 24) (z := .pointer none) (size := 1) (bytes := 8) (by kernel_rfl)
  clear hat hg hl
  go_enter Tryz.func3, Tryz.ntmps3
  go_wp2_with fail
  refine hcall.out.mono ?_
  rintro e _ ⟨rfl, rfl⟩
  clear hcall
  go_wp2_with fail
  go_loopw [7, 8] (fun v i wr => ∃ rs : List FR, rs.length ≤ n ∧ i = .int .i64 rs.length ∧ FRow w wr v rs) (fun _ i _ => n - (intOf i).toNat)
  case atStart => exact ⟨[], by simp, rfl, FRow.nil w⟩
  case round =>
    obtain ⟨rs, hrs, rfl, hrow⟩ := hrel
    rename World => wr
    have HR := Lib.hid hrow
    by_cases hlt : rs.length < n
    · clear hrow
      go_wp2_with fail
      refine (fut_new_f wr).mono ?_
      rintro e w1 ⟨r, rfl, hF, hnew, s1⟩
      have hown := (HR.out.same_step s1).own
      have HF := Lib.hid (And.intro hF (And.intro hnew s1))
      have hz := s1.size
      have hzr := HR.out.same.size
      clear hF hnew s1
      go_wp2_with (at_builtin; refine wpList_append_own _ rfl _ _ 23 rfl w.heap.size 24 i0 (.pointer none) 1 8 Tryz.underlying23 hi hz0 hz1 hz2 rfl (by decide) _ _ _ rfl (hown.alloc _) ⟨w1.heap.size, 0, none⟩ 1 1 [.pointer (some ⟨r.b, 0, none⟩)] rfl rfl ?c1 ?c2 ?c3 ?c4 ?c5 ?c6)
      case c1 =>
        intro j u hj
        rcases j with _ | j
        · simp at hj; subst hj; exact (Blk.new w1 _ _).cellAt 0 rfl
        · simp at hj
      case c2 => intro u hu; simp at hu; subst hu; rfl
      case c3 => unfold maxLen; omega
      case c4 => omega
      case c5 => simp; omega
      case c6 =>
        intro v' w2 ho hgr hne
        have hrow' : FRow w w2 v' (rs ++ [r]) := by
          obtain ⟨hF, hnew, s1⟩ := HF.out
          exact ((HR.out.same_step s1).same_step ((Chg.refl _ _).alloc _)).step (hF.chg (S := fun _ => False) ((Chg.refl _ _).alloc _) (fun _ _ x => x)) (fun k hk => Nat.le_trans hzr (hnew k hk)) ⟨wr.heap.size, fun x hx k hk => (HR.out.fut x hx).lt k hk, hnew⟩ ho hgr
        have HR' := Lib.hid hrow'
        clear hrow' ho hgr hne hown HF HR hz hzr
        go_wp2_with fail
        go_roundw
        case rel =>
          have hl : ((rs ++ [r]).length : Int) = rs.length + 1 := by simp
          first | exact ⟨rs ++ [r], by simp; omega, by rw [hl], HR'.out⟩ | exact ⟨rs ++ [r], by simp; omega, by rw [hl], HR'.out, trivial⟩
        case measure => simp [intOf]; omega
    · obtain rfl : rs.length = n := by omega
      clear hrow
      have HN := Lib.hid hnob
      clear hnob
      obtain ⟨g, c, cur, rfl, hgw, hB, hcur⟩ := HR.out.blk hpos
      have hrow := HR.out
      have hgn : ¬ Any rs g := fun ⟨r, hr, hx⟩ => (hrow.fut r hr).ne_blk hB (by decide) (by decide) (by decide) (by decide) hx
      have hlt2 : ∀ q, Any rs q → q < wr.heap.size := any_lt (fun r hr => (hrow.fut r hr).lt)
      have hge2 : ∀ q, Any rs q → w.heap.size ≤ q := fun q ⟨r, hr, hq⟩ => hrow.new r hr q hq
      have hP := hrow.ptrs (by omega)
      have hA := all_open wr _ rs (fun _ => []) (fun _ => by simp) hP hrow.apart (fun j hj => hrow.fut _ (List.getElem_mem hj)) (hlb_of hgn hB.lt)
      have HA := Lib.hid hA
      have HQ := Lib.hid (And.intro hgn (And.intro hlt2 (And.intro hge2 (And.intro hP (And.intro hrow.apart (And.intro hB.lt hrow.same))))))
      clear hgw hB hcur hrow hgn hlt2 hge2 hP hA
      have hnn := HN.out
      have h0b : ((rs.length : Int) == 0) = false := beq_eq_false_iff_ne.2 (by omega)
      have hgb : decide (0 < (rs.length : Int)) = true := by simp; omega
      clear HN
      go_wp2_with fail
      refine HA.out.mono ?_
      rintro e w3 ⟨hpost, _⟩
      obtain ⟨g1, kl, ke, kj, kx, rfl, hJ, hF1, hM, hC3⟩ := hpost (by omega)
      obtain ⟨fs1, hfl1, hff1⟩ := more_choice (n := 0) (fun _ => by simp) hM
      have HP3 := Lib.hid (And.intro hJ (And.intro hF1 hC3))
      have HB3 : Hid (Calls Tryz.prog 12 #[.pointer none, .slice (some ⟨g, 0, none⟩) rs.length c] w3 (AnyDone w3 rs fs1)) := by
        refine Lib.hid ?_
        obtain ⟨hgn, hlt2, hge2, hP, hap, hgl, _⟩ := HQ.out
        exact any_open w3 _ rs fs1 (fun j => by have := hfl1 j; omega) (hP.chg hC3 (fun a m c e => by cases e; exact hgn)) hap hff1 (hlb_of hgn (Nat.lt_of_lt_of_le hgl hC3.size)) hpos
      have HC3 := Lib.hid hC3
      have HFL := Lib.hid hfl1
      clear hpost hJ hF1 hM hC3 hfl1 hff1 HA
      go_wp2_with fail
      refine HB3.out.mono ?_
      rintro e w4 ⟨g2, k6, rfl, hF2, hB6, hg2, hk6, hM4, hC4⟩
      obtain ⟨fs2, hfl2, hff2⟩ := more_choice (n := 1) (fun j => by have := HFL.out j; omega) hM4
      have hP4 : Ptrs w4 (.slice (some ⟨g, 0, none⟩) rs.length c) (rs.map fun r => some ⟨r.b, 0, none⟩) := by
        obtain ⟨hgn, hlt2, hge2, hP, hap, hgl, _⟩ := HQ.out
        exact (hP.chg HC3.out (fun a m c e => by cases e; exact hgn)).chg hC4 (fun a m c e => by cases e; exact hgn)
      have hmade : ∀ p ∈ (rs.map fun r => some (⟨r.b, 0, none⟩ : Addr)), MadeP w4 p := fun p hp => by
        obtain ⟨r, hr, rfl⟩ := List.mem_map.1 hp
        obtain ⟨j, hj, rfl⟩ := List.getElem_of_mem hr
        exact (hff2 j hj).n.made
      have HC4 := Lib.hid hC4
      have HP4 := Lib.hid (And.intro hF2 (And.intro hfl2 (And.intro hff2 hP4)))
      have HMD := Lib.hid hmade
      clear hF2 hB6 hg2 hk6 hM4 hC4 hfl2 hff2 hP4 HB3 hmade
      go_wp2_with fail
      have hq := quorum_arg w4 k _ _ HP4.out.2.2.2 HMD.out (by simp only [List.length_map]; omega)
      have HK := Lib.hid hq
      clear hq
      refine HK.out.mono ?_
      rintro e w5 ⟨rfl, hC5⟩
      have HC5 := Lib.hid (hC5.mono (S' := Any rs) (fun _ _ x => x.elim))
      clear hC5 HK
      have HS3 : Hid (Same w w5) := by
        obtain ⟨hgn, hlt2, hge2, hP, hap, hgl, hsame⟩ := HQ.out
        exact Lib.hid (hsame.trans' ((HC3.out.trans HC4.out).trans HC5.out) (fun i hi e => by have := hge2 _ e; omega))
      go_wp2_with fail
      have bJ : Blk (w5.alloc (.cells #[.pointer none, .pointer none, .slice none 0 0] 41)) w5.heap.size #[.pointer none, .pointer none, .slice none 0 0] 41 := Blk.new _ _ _
      have sJ : Same w5 (w5.alloc (.cells #[.pointer none, .pointer none, .slice none 0 0] 41)) := (Chg.refl _ _).alloc _
      generalize w5.alloc (.cells #[.pointer none, .pointer none, .slice none 0 0] 41) = W4 at *
      generalize w5.heap.size = bj at *
      refine (joint_values_none _).mono ?_
      rintro e _ ⟨rfl, rfl⟩
      go_wp2_with fail
      refine (joint_values_bare _ _ _ _ bJ).mono ?_
      rintro e _ ⟨rfl, rfl⟩
      go_wp2_with fail
      refine (joint_future_none _).mono ?_
      rintro e _ ⟨rfl, rfl⟩
      go_wp2_with fail
      refine (joint_future _ _ _ _ _ none bJ rfl).mono ?_
      rintro e _ ⟨rfl, rfl⟩
      have hE4 : ErrType W4 ∧ 0 < W4.heap.size := ⟨HE.out.1.same ((HS3.out).trans sJ) HE.out.2, by have := HE.out.2; have := ((HS3.out).trans sJ).size; omega⟩
      have HSJ := Lib.hid sJ
      have HS4 := Lib.hid ((HS3.out).trans sJ)
      clear bJ sJ
      have HE4 := Lib.hid hE4
      clear hE4
      go_wp2_with fail
      refine (class_any (l := []) (B := some (.errno 2)) W4 rfl HE4.out.1 HE4.out.2).mono ?_
      rintro e W5 ⟨rfl, s5⟩
      have HS5 := Lib.hid s5
      clear s5
      go_wp2_with fail
      refine (class_any (l := []) (B := some (.errno 2)) W5 rfl (HE4.out.1.same HS5.out HE4.out.2) (by have := HE4.out.2; have := HS5.out.size; omega)).mono ?_
      rintro e W6 ⟨rfl, s6⟩
      have HS6 := Lib.hid ((HS4.out.trans HS5.out).trans s6)
      have HS36 := Lib.hid ((HSJ.out.trans HS5.out).trans s6)
      clear s6
      go_wp2_with fail
      obtain ⟨hJ, hF1, _⟩ := HP3.out
      have hnot : ∀ q, wr.heap.size ≤ q → ¬ Any rs q := fun q hq h => by have := HQ.out.2.1 q h; omega
      have hj6 := (((HC4.out.trans HC5.out).blk hJ.joint (hnot _ hJ.nj)))
      have hj6 := HS36.out.blk hj6 (fun x => x)
      have hg6 := ((hF1.chg (HC4.out.trans HC5.out) (fun q hq => hnot q (hJ.ng q hq))).chg HS36.out (fun _ _ x => x))
      obtain ⟨pl1, hA6, _⟩ := hg6
      have HZ := Lib.hid (And.intro hj6 hA6)
      clear hJ hF1 hnot hj6 hA6
      refine (joint_future _ _ _ _ _ _ HZ.out.1 rfl).mono ?_
      rintro e _ ⟨rfl, rfl⟩
      go_wp2_with fail
      refine (fut_peek_open HZ.out.2).mono ?_
      rintro e _ ⟨rfl, rfl⟩
      go_wp2_with fail
      refine (fut_none_peek _ none (.inl rfl)).mono ?_
      rintro e W7 ⟨rfl, hw7⟩
      have HS7 := Lib.hid (hw7 ▸ HS6.out)
      clear hw7
      go_wp2_with fail
      refine (works16 W7).mono ?_
      rintro e W8 ⟨rfl, s8⟩
      have HS8 := Lib.hid (HS7.out.trans s8)
      clear s8
      go_wp2_with fail
      go_ret
      exact ⟨rfl, HS8.out⟩
theorem joinNone_zero_lo (many nobody : Int) (n : Nat) (w : World) (hn : n ≤ 5) (hat : ∀ w, Calls Tryz.prog 9 #[.int .i64 many, .int .i64 6] w fun e w' => e = .returned (.int .i64 n) ∧ w = w') (hpos : 0 < n) (hnob : nobody < 0)  (hg : ErrType w) (hl : 0 < w.heap.size) :
    Calls Tryz.prog 3 #[.int .i64 many, .int .i64 0, .int .i64 nobody] w fun e w' => e = .returned (.bool true) ∧ Same w w' := by
  have hcall := Lib.hid (hat w)
  have HE := Lib.hid (And.intro hg hl)
  obtain ⟨i0, hi, hz0, hz1, hz2⟩ := info_parts (P := Tryz.prog) (e := 24) (z := .pointer none) (size := 1) (bytes := 8) (by kernel_rfl)
  clear hat hg hl
  go_enter Tryz.func3, Tryz.ntmps3
  go_wp2_with fail
  refine hcall.out.mono ?_
  rintro e _ ⟨rfl, rfl⟩
  clear hcall
  go_wp2_with fail
  go_loopw [7, 8] (fun v i wr => ∃ rs : List FR, rs.length ≤ n ∧ i = .int .i64 rs.length ∧ FRow w wr v rs) (fun _ i _ => n - (intOf i).toNat)
  case atStart => exact ⟨[], by simp, rfl, FRow.nil w⟩
  case round =>
    obtain ⟨rs, hrs, rfl, hrow⟩ := hrel
    rename World => wr
    have HR := Lib.hid hrow
    by_cases hlt : rs.length < n
    · clear hrow
      go_wp2_with fail
      refine (fut_new_f wr).mono ?_
      rintro e w1 ⟨r, rfl, hF, hnew, s1⟩
      have hown := (HR.out.same_step s1).own
      have HF := Lib.hid (And.intro hF (And.intro hnew s1))
      have hz := s1.size
      have hzr := HR.out.same.size
      clear hF hnew s1
      go_wp2_with (at_builtin; refine wpList_append_own _ rfl _ _ 23 rfl w.heap.size 24 i0 (.pointer none) 1 8 Tryz.underlying23 hi hz0 hz1 hz2 rfl (by decide) _ _ _ rfl (hown.alloc _) ⟨w1.heap.size, 0, none⟩ 1 1 [.pointer (some ⟨r.b, 0, none⟩)] rfl rfl ?c1 ?c2 ?c3 ?c4 ?c5 ?c6)
      case c1 =>
        intro j u hj
        rcases j with _ | j
        · simp at hj; subst hj; exact (Blk.new w1 _ _).cellAt 0 rfl
        · simp at hj
      case c2 => intro u hu; simp at hu; subst hu; rfl
      case c3 => unfold maxLen; omega
      case c4 => omega
      case c5 => simp; omega
      case c6 =>
        intro v' w2 ho hgr hne
        have hrow' : FRow w w2 v' (rs ++ [r]) := by
          obtain ⟨hF, hnew, s1⟩ := HF.out
          exact ((HR.out.same_step s1).same_step ((Chg.refl _ _).alloc _)).step (hF.chg (S := fun _ => False) ((Chg.refl _ _).alloc _) (fun _ _ x => x)) (fun k hk => Nat.le_trans hzr (hnew k hk)) ⟨wr.heap.size, fun x hx k hk => (HR.out.fut x hx).lt k hk, hnew⟩ ho hgr
        have HR' := Lib.hid hrow'
        clear hrow' ho hgr hne hown HF HR hz hzr
        go_wp2_with fail
        go_roundw
        case rel =>
          have hl : ((rs ++ [r]).length : Int) = rs.length + 1 := by simp
          first | exact ⟨rs ++ [r], by simp; omega, by rw [hl], HR'.out⟩ | exact ⟨rs ++ [r], by simp; omega, by rw [hl], HR'.out, trivial⟩
        case measure => simp [intOf]; omega
    · obtain rfl : rs.length = n := by omega
      clear hrow
      have HN := Lib.hid hnob
      clear hnob
      obtain ⟨g, c, cur, rfl, hgw, hB, hcur⟩ := HR.out.blk hpos
      have hrow := HR.out
      have hgn : ¬ Any rs g := fun ⟨r, hr, hx⟩ => (hrow.fut r hr).ne_blk hB (by decide) (by decide) (by decide) (by decide) hx
      have hlt2 : ∀ q, Any rs q → q < wr.heap.size := any_lt (fun r hr => (hrow.fut r hr).lt)
      have hge2 : ∀ q, Any rs q → w.heap.size ≤ q := fun q ⟨r, hr, hq⟩ => hrow.new r hr q hq
      have hP := hrow.ptrs (by omega)
      have hA := all_open wr _ rs (fun _ => []) (fun _ => by simp) hP hrow.apart (fun j hj => hrow.fut _ (List.getElem_mem hj)) (hlb_of hgn hB.lt)
      have HA := Lib.hid hA
      have HQ := Lib.hid (And.intro hgn (And.intro hlt2 (And.intro hge2 (And.intro hP (And.intro hrow.apart (And.intro hB.lt hrow.same))))))
      clear hgw hB hcur hrow hgn hlt2 hge2 hP hA
      have hnn := HN.out
      have h0b : ((rs.length : Int) == 0) = false := beq_eq_false_iff_ne.2 (by omega)
      have hgb : decide (0 < (rs.length : Int)) = true := by simp; omega
      clear HN
      go_wp2_with fail
      refine HA.out.mono ?_
      rintro e w3 ⟨hpost, _⟩
      obtain ⟨g1, kl, ke, kj, kx, rfl, hJ, hF1, hM, hC3⟩ := hpost (by omega)
      obtain ⟨fs1, hfl1, hff1⟩ := more_choice (n := 0) (fun _ => by simp) hM
      have HP3 := Lib.hid (And.intro hJ (And.intro hF1 hC3))
      have HB3 : Hid (Calls Tryz.prog 12 #[.pointer none, .slice (some ⟨g, 0, none⟩) rs.length c] w3 (AnyDone w3 rs fs1)) := by
        refine Lib.hid ?_
        obtain ⟨hgn, hlt2, hge2, hP, hap, hgl, _⟩ := HQ.out
        exact any_open w3 _ rs fs1 (fun j => by have := hfl1 j; omega) (hP.chg hC3 (fun a m c e => by cases e; exact hgn)) hap hff1 (hlb_of hgn (Nat.lt_of_lt_of_le hgl hC3.size)) hpos
      have HC3 := Lib.hid hC3
      have HFL := Lib.hid hfl1
      clear hpost hJ hF1 hM hC3 hfl1 hff1 HA
      go_wp2_with fail
      refine HB3.out.mono ?_
      rintro e w4 ⟨g2, k6, rfl, hF2, hB6, hg2, hk6, hM4, hC4⟩
      obtain ⟨fs2, hfl2, hff2⟩ := more_choice (n := 1) (fun j => by have := HFL.out j; omega) hM4
      have hP4 : Ptrs w4 (.slice (some ⟨g, 0, none⟩) rs.length c) (rs.map fun r => some ⟨r.b, 0, none⟩) := by
        obtain ⟨hgn, hlt2, hge2, hP, hap, hgl, _⟩ := HQ.out
        exact (hP.chg HC3.out (fun a m c e => by cases e; exact hgn)).chg hC4 (fun a m c e => by cases e; exact hgn)
      have hmade : ∀ p ∈ (rs.map fun r => some (⟨r.b, 0, none⟩ : Addr)), MadeP w4 p := fun p hp => by
        obtain ⟨r, hr, rfl⟩ := List.mem_map.1 hp
        obtain ⟨j, hj, rfl⟩ := List.getElem_of_mem hr
        exact (hff2 j hj).n.made
      have HC4 := Lib.hid hC4
      have HP4 := Lib.hid (And.intro hF2 (And.intro hfl2 (And.intro hff2 hP4)))
      have HMD := Lib.hid hmade
      clear hF2 hB6 hg2 hk6 hM4 hC4 hfl2 hff2 hP4 HB3 hmade
      go_wp2_with fail
      have hq := quorum_zero w4 _ _ HP4.out.2.2.2 HMD.out
      have HK := Lib.hid hq
      clear hq
      refine HK.out.mono ?_
      rintro e w5 ⟨g3, v3, st3, la3, pl3, rfl, hF3, hst3, hg3, hC5⟩
      have HC5 := Lib.hid (hC5.mono (S' := Any rs) (fun _ _ x => x.elim))
      have HP5 := Lib.hid (And.intro hF3 hst3)
      clear hF3 hst3 hg3 hC5 HK
      have HS3 : Hid (Same w w5) := by
        obtain ⟨hgn, hlt2, hge2, hP, hap, hgl, hsame⟩ := HQ.out
        exact Lib.hid (hsame.trans' ((HC3.out.trans HC4.out).trans HC5.out) (fun i hi e => by have := hge2 _ e; omega))
      go_wp2_with fail
      have bJ : Blk (w5.alloc (.cells #[.pointer none, .pointer none, .slice none 0 0] 41)) w5.heap.size #[.pointer none, .pointer none, .slice none 0 0] 41 := Blk.new _ _ _
      have sJ : Same w5 (w5.alloc (.cells #[.pointer none, .pointer none, .slice none 0 0] 41)) := (Chg.refl _ _).alloc _
      generalize w5.alloc (.cells #[.pointer none, .pointer none, .slice none 0 0] 41) = W4 at *
      generalize w5.heap.size = bj at *
      refine (joint_values_none _).mono ?_
      rintro e _ ⟨rfl, rfl⟩
      go_wp2_with fail
      refine (joint_values_bare _ _ _ _ bJ).mono ?_
      rintro e _ ⟨rfl, rfl⟩
      go_wp2_with fail
      refine (joint_future_none _).mono ?_
      rintro e _ ⟨rfl, rfl⟩
      go_wp2_with fail
      refine (joint_future _ _ _ _ _ none bJ rfl).mono ?_
      rintro e _ ⟨rfl, rfl⟩
      have hE4 : ErrType W4 ∧ 0 < W4.heap.size := ⟨HE.out.1.same ((HS3.out).trans sJ) HE.out.2, by have := HE.out.2; have := ((HS3.out).trans sJ).size; omega⟩
      have HSJ := Lib.hid sJ
      have HS4 := Lib.hid ((HS3.out).trans sJ)
      clear bJ sJ
      have HE4 := Lib.hid hE4
      clear hE4
      go_wp2_with fail
      refine (class_any (l := []) (B := some (.errno 2)) W4 rfl HE4.out.1 HE4.out.2).mono ?_
      rintro e W5 ⟨rfl, s5⟩
      have HS5 := Lib.hid s5
      clear s5
      go_wp2_with fail
      refine (class_any (l := []) (B := some (.errno 2)) W5 rfl (HE4.out.1.same HS5.out HE4.out.2) (by have := HE4.out.2; have := HS5.out.size; omega)).mono ?_
      rintro e W6 ⟨rfl, s6⟩
      have HS6 := Lib.hid ((HS4.out.trans HS5.out).trans s6)
      have HS36 := Lib.hid ((HSJ.out.trans HS5.out).trans s6)
      clear s6
      go_wp2_with fail
      obtain ⟨hJ, hF1, _⟩ := HP3.out
      have hnot : ∀ q, wr.heap.size ≤ q → ¬ Any rs q := fun q hq h => by have := HQ.out.2.1 q h; omega
      have hj6 := (((HC4.out.trans HC5.out).blk hJ.joint (hnot _ hJ.nj)))
      have hj6 := HS36.out.blk hj6 (fun x => x)
      have hg6 := ((hF1.chg (HC4.out.trans HC5.out) (fun q hq => hnot q (hJ.ng q hq))).chg HS36.out (fun _ _ x => x))
      obtain ⟨pl1, hA6, _⟩ := hg6
      have HZ := Lib.hid (And.intro hj6 hA6)
      clear hJ hF1 hnot hj6 hA6
      refine (joint_future _ _ _ _ _ _ HZ.out.1 rfl).mono ?_
      rintro e _ ⟨rfl, rfl⟩
      go_wp2_with fail
      refine (fut_peek_open HZ.out.2).mono ?_
      rintro e _ ⟨rfl, rfl⟩
      go_wp2_with fail
      have hA7 := HP5.out.1.chg HS36.out (fun x => x) (fun x => x) (fun x => x) (fun x => x) (fun x => x) (fun x => x)
      have HA7 := Lib.hid hA7
      clear hA7
      refine (fut_peek HA7.out HP5.out.2).mono ?_
      rintro e W7 ⟨rfl, hw7⟩
      have HS7 := Lib.hid (HS6.out.trans hw7)
      clear hw7
      go_wp2_with fail
      refine (works16 W7).mono ?_
      rintro e W8 ⟨rfl, s8⟩
      have HS8 := Lib.hid (HS7.out.trans s8)
      clear s8
      go_wp2_with fail
      go_ret
      exact ⟨rfl, HS8.out⟩
theorem joinNone_zero_hi (many nobody : Int) (n : Nat) (w : World) (hn : n ≤ 5) (hat : ∀ w, Calls Tryz.prog 9 #[.int .i64 many, .int .i64 6] w fun e w' => e = .returned (.int .i64 n) ∧ w = w') (hpos : 0 < n) (hnob : n ≤ nobody)  (hg : ErrType w) (hl : 0 < w.heap.size) :
    Calls Tryz.prog 3 #[.int .i64 many, .int .i64 0, .int .i64 nobody] w fun e w' => e = .returned (.bool true) ∧ Same w w' := by
  have hcall := Lib.hid (hat w)
  have HE := Lib.hid (And.intro hg hl)
  obtain ⟨i0, hi, hz0, hz1, hz2⟩ := info_parts (P := Tryz.prog) (e := 24) (z := .pointer none) (size := 1) (bytes := 8) (by kernel_rfl)
  clear hat hg hl
  go_enter Tryz.func3, Tryz.ntmps3
  go_wp2_with fail
  refine hcall.out.mono ?_
  rintro e _ ⟨rfl, rfl⟩
  clear hcall
  go_wp2_with fail
  go_loopw [7, 8] (fun v i wr => ∃ rs : List FR, rs.length ≤ n ∧ i = .int .i64 rs.length ∧ FRow w wr v rs) (fun _ i _ => n - (intOf i).toNat)
  case atStart => exact ⟨[], by simp, rfl, FRow.nil w⟩
  case round =>
    obtain ⟨rs, hrs, rfl, hrow⟩ := hrel
    rename World => wr
    have HR := Lib.hid hrow
    by_cases hlt : rs.length < n
    · clear hrow
      go_wp2_with fail
      refine (fut_new_f wr).mono ?_
      rintro e w1 ⟨r, rfl, hF, hnew, s1⟩
      have hown := (HR.out.same_step s1).own
      have HF := Lib.hid (And.intro hF (And.intro hnew s1))
      have hz := s1.size
      have hzr := HR.out.same.size
      clear hF hnew s1
      go_wp2_with (at_builtin; refine wpList_append_own _ rfl _ _ 23 rfl w.heap.size 24 i0 (.pointer none) 1 8 Tryz.underlying23 hi hz0 hz1 hz2 rfl (by decide) _ _ _ rfl (hown.alloc _) ⟨w1.heap.size, 0, none⟩ 1 1 [.pointer (some ⟨r.b, 0, none⟩)] rfl rfl ?c1 ?c2 ?c3 ?c4 ?c5 ?c6)
      case c1 =>
        intro j u hj
        rcases j with _ | j
        · simp at hj; subst hj; exact (Blk.new w1 _ _).cellAt 0 rfl
        · simp at hj
      case c2 => intro u hu; simp at hu; subst hu; rfl
      case c3 => unfold maxLen; omega
      case c4 => omega
      case c5 => simp; omega
      case c6 =>
        intro v' w2 ho hgr hne
        have hrow' : FRow w w2 v' (rs ++ [r]) := by
          obtain ⟨hF, hnew, s1⟩ := HF.out
          exact ((HR.out.same_step s1).same_step ((Chg.refl _ _).alloc _)).step (hF.chg (S := fun _ => False) ((Chg.refl _ _).alloc _) (fun _ _ x => x)) (fun k hk => Nat.le_trans hzr (hnew k hk)) ⟨wr.heap.size, fun x hx k hk => (HR.out.fut x hx).lt k hk, hnew⟩ ho hgr
        have HR' := Lib.hid hrow'
        clear hrow' ho hgr hne hown HF HR hz hzr
        go_wp2_with fail
        go_roundw
        case rel =>
          have hl : ((rs ++ [r]).length : Int) = rs.length + 1 := by simp
          first | exact ⟨rs ++ [r], by simp; omega, by rw [hl], HR'.out⟩ | exact ⟨rs ++ [r], by simp; omega, by rw [hl], HR'.out, trivial⟩
        case measure => simp [intOf]; omega
    · obtain rfl : rs.length = n := by omega
      clear hrow
      have HN := Lib.hid hnob
      clear hnob
      obtain ⟨g, c, cur, rfl, hgw, hB, hcur⟩ := HR.out.blk hpos
      have hrow := HR.out
      have hgn : ¬ Any rs g := fun ⟨r, hr, hx⟩ => (hrow.fut r hr).ne_blk hB (by decide) (by decide) (by decide) (by decide) hx
      have hlt2 : ∀ q, Any rs q → q < wr.heap.size := any_lt (fun r hr => (hrow.fut r hr).lt)
      have hge2 : ∀ q, Any rs q → w.heap.size ≤ q := fun q ⟨r, hr, hq⟩ => hrow.new r hr q hq
      have hP := hrow.ptrs (by omega)
      have hA := all_open wr _ rs (fun _ => []) (fun _ => by simp) hP hrow.apart (fun j hj => hrow.fut _ (List.getElem_mem hj)) (hlb_of hgn hB.lt)
      have HA := Lib.hid hA
      have HQ := Lib.hid (And.intro hgn (And.intro hlt2 (And.intro hge2 (And.intro hP (And.intro hrow.apart (And.intro hB.lt hrow.same))))))
      clear hgw hB hcur hrow hgn hlt2 hge2 hP hA
      have hnn := HN.out
      have h0b : ((rs.length : Int) == 0) = false := beq_eq_false_iff_ne.2 (by omega)
      have hgb : decide (0 < (rs.length : Int)) = true := by simp; omega
      clear HN
      go_wp2_with fail
      refine HA.out.mono ?_
      rintro e w3 ⟨hpost, _⟩
      obtain ⟨g1, kl, ke, kj, kx, rfl, hJ, hF1, hM, hC3⟩ := hpost (by omega)
      obtain ⟨fs1, hfl1, hff1⟩ := more_choice (n := 0) (fun _ => by simp) hM
      have HP3 := Lib.hid (And.intro hJ (And.intro hF1 hC3))
      have HB3 : Hid (Calls Tryz.prog 12 #[.pointer none, .slice (some ⟨g, 0, none⟩) rs.length c] w3 (AnyDone w3 rs fs1)) := by
        refine Lib.hid ?_
        obtain ⟨hgn, hlt2, hge2, hP, hap, hgl, _⟩ := HQ.out
        exact any_open w3 _ rs fs1 (fun j => by have := hfl1 j; omega) (hP.chg hC3 (fun a m c e => by cases e; exact hgn)) hap hff1 (hlb_of hgn (Nat.lt_of_lt_of_le hgl hC3.size)) hpos
      have HC3 := Lib.hid hC3
      have HFL := Lib.hid hfl1
      clear hpost hJ hF1 hM hC3 hfl1 hff1 HA
      go_wp2_with fail
      refine HB3.out.mono ?_
      rintro e w4 ⟨g2, k6, rfl, hF2, hB6, hg2, hk6, hM4, hC4⟩
      obtain ⟨fs2, hfl2, hff2⟩ := more_choice (n := 1) (fun j => by have := HFL.out j; omega) hM4
      have hP4 : Ptrs w4 (.slice (some ⟨g, 0, none⟩) rs.length c) (rs.map fun r => some ⟨r.b, 0, none⟩) := by
        obtain ⟨hgn, hlt2, hge2, hP, hap, hgl, _⟩ := HQ.out
        exact (hP.chg HC3.out (fun a m c e => by cases e; exact hgn)).chg hC4 (fun a m c e => by cases e; exact hgn)
      have hmade : ∀ p ∈ (rs.map fun r => some (⟨r.b, 0, none⟩ : Addr)), MadeP w4 p := fun p hp => by
        obtain ⟨r, hr, rfl⟩ := List.mem_map.1 hp
        obtain ⟨j, hj, rfl⟩ := List.getElem_of_mem hr
        exact (hff2 j hj).n.made
      have HC4 := Lib.hid hC4
      have HP4 := Lib.hid (And.intro hF2 (And.intro hfl2 (And.intro hff2 hP4)))
      have HMD := Lib.hid hmade
      clear hF2 hB6 hg2 hk6 hM4 hC4 hfl2 hff2 hP4 HB3 hmade
      go_wp2_with fail
      have hq := quorum_zero w4 _ _ HP4.out.2.2.2 HMD.out
      have HK := Lib.hid hq
      clear hq
      refine HK.out.mono ?_
      rintro e w5 ⟨g3, v3, st3, la3, pl3, rfl, hF3, hst3, hg3, hC5⟩
      have HC5 := Lib.hid (hC5.mono (S' := Any rs) (fun _ _ x => x.elim))
      have HP5 := Lib.hid (And.intro hF3 hst3)
      clear hF3 hst3 hg3 hC5 HK
      have HS3 : Hid (Same w w5) := by
        obtain ⟨hgn, hlt2, hge2, hP, hap, hgl, hsame⟩ := HQ.out
        exact Lib.hid (hsame.trans' ((HC3.out.trans HC4.out).trans HC5.out) (fun i hi e => by have := hge2 _ e; omega))
      go_wp2_with fail
      have bJ : Blk (w5.alloc (.cells #[.pointer none, .pointer none, .slice none 0 0] 41)) w5.heap.size #[.pointer none, .pointer none, .slice none 0 0] 41 := Blk.new _ _ _
      have sJ : Same w5 (w5.alloc (.cells #[.pointer none, .pointer none, .slice none 0 0] 41)) := (Chg.refl _ _).alloc _
      generalize w5.alloc (.cells #[.pointer none, .pointer none, .slice none 0 0] 41) = W4 at *
      generalize w5.heap.size = bj at *
      refine (joint_values_none _).mono ?_
      rintro e _ ⟨rfl, rfl⟩
      go_wp2_with fail
      refine (joint_values_bare _ _ _ _ bJ).mono ?_
      rintro e _ ⟨rfl, rfl⟩
      go_wp2_with fail
      refine (joint_future_none _).mono ?_
      rintro e _ ⟨rfl, rfl⟩
      go_wp2_with fail
      refine (joint_future _ _ _ _ _ none bJ rfl).mono ?_
      rintro e _ ⟨rfl, rfl⟩
      have hE4 : ErrType W4 ∧ 0 < W4.heap.size := ⟨HE.out.1.same ((HS3.out).trans sJ) HE.out.2, by have := HE.out.2; have := ((HS3.out).trans sJ).size; omega⟩
      have HSJ := Lib.hid sJ
      have HS4 := Lib.hid ((HS3.out).trans sJ)
      clear bJ sJ
      have HE4 := Lib.hid hE4
      clear hE4
      go_wp2_with fail
      refine (class_any (l := []) (B := some (.errno 2)) W4 rfl HE4.out.1 HE4.out.2).mono ?_
      rintro e W5 ⟨rfl, s5⟩
      have HS5 := Lib.hid s5
      clear s5
      go_wp2_with fail
      refine (class_any (l := []) (B := some (.errno 2)) W5 rfl (HE4.out.1.same HS5.out HE4.out.2) (by have := HE4.out.2; have := HS5.out.size; omega)).mono ?_
      rintro e W6 ⟨rfl, s6⟩
      have HS6 := Lib.hid ((HS4.out.trans HS5.out).trans s6)
      have HS36 := Lib.hid ((HSJ.out.trans HS5.out).trans s6)
      clear s6
      go_wp2_with fail
      obtain ⟨hJ, hF1, _⟩ := HP3.out
      have hnot : ∀ q, wr.heap.size ≤ q → ¬ Any rs q := fun q hq h => by have := HQ.out.2.1 q h; omega
      have hj6 := (((HC4.out.trans HC5.out).blk hJ.joint (hnot _ hJ.nj)))
      have hj6 := HS36.out.blk hj6 (fun x => x)
      have hg6 := ((hF1.chg (HC4.out.trans HC5.out) (fun q hq => hnot q (hJ.ng q hq))).chg HS36.out (fun _ _ x => x))
      obtain ⟨pl1, hA6, _⟩ := hg6
      have HZ := Lib.hid (And.intro hj6 hA6)
      clear hJ hF1 hnot hj6 hA6
      refine (joint_future _ _ _ _ _ _ HZ.out.1 rfl).mono ?_
      rintro e _ ⟨rfl, rfl⟩
      go_wp2_with fail
      refine (fut_peek_open HZ.out.2).mono ?_
      rintro e _ ⟨rfl, rfl⟩
      go_wp2_with fail
      have hA7 := HP5.out.1.chg HS36.out (fun x => x) (fun x => x) (fun x => x) (fun x => x) (fun x => x) (fun x => x)
      have HA7 := Lib.hid hA7
      clear hA7
      refine (fut_peek HA7.out HP5.out.2).mono ?_
      rintro e W7 ⟨rfl, hw7⟩
      have HS7 := Lib.hid (HS6.out.trans hw7)
      clear hw7
      go_wp2_with fail
      refine (works16 W7).mono ?_
      rintro e W8 ⟨rfl, s8⟩
      have HS8 := Lib.hid (HS7.out.trans s8)
      clear s8
      go_wp2_with fail
      go_ret
      exact ⟨rfl, HS8.out⟩
end Go.Proofs.YtgljjgmfhememaaGreatDoor
