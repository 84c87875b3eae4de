/- treadlelaw16.JoinNone, its walk. Conditions: errors.errorType holds what the program lays. -/
import Derived.Test.YtgljjgmfhememaaGreatDoorJoinS
namespace Go.Proofs.YtgljjgmfhememaaGreatDoor
open Go Go.RowKit Go.Sort
set_option maxRecDepth 100000
set_option maxHeartbeats 4000000
theorem joinNone_bad (many k nobody : Int) (n : Nat) (w : World) (hn : n ≤ 5) (hat : ∀ w, Calls Tryz.prog 9 #[.int .i64 many, .int .i64 6] w fun e w' => e = .returned (.int .i64 n) ∧ w = w') (hbad : 0 < n ∧ 0 ≤ nobody ∧ nobody < n) (hg : ErrType w) (hl : 0 < w.heap.size) :
    Calls Tryz.prog 3 #[.int .i64 many, .int .i64 k, .int .i64 nobody] w fun e w' => e = .returned (.bool true) ∧ Same w w' := by
  have hcall := Lib.hid (hat w)
  have HE := Lib.hid (And.intro hg hl)
  obtain ⟨i0, hi, hz0, hz1, hz2⟩ := info_parts (P := Tryz.prog) (e := 24) (z := .pointer none) (size := 1) (bytes := 8) (by kernel_rfl)
  clear hat hg hl
  go_enter Tryz.func3, Tryz.ntmps3
  go_wp2_with fail
  refine hcall.out.mono ?_
  rintro e _ ⟨rfl, rfl⟩
  clear hcall
  go_wp2_with fail
  go_loopw [7, 8] (fun v i wr => ∃ rs : List FR, rs.length ≤ n ∧ i = .int .i64 rs.length ∧ FRow w wr v rs) (fun _ i _ => n - (intOf i).toNat)
  case atStart => exact ⟨[], by simp, rfl, FRow.nil w⟩
  case round =>
    obtain ⟨rs, hrs, rfl, hrow⟩ := hrel
    rename World => wr
    have HR := Lib.hid hrow
    by_cases hlt : rs.length < n
    · clear hrow
      go_wp2_with fail
      refine (fut_new_f wr).mono ?_
      rintro e w1 ⟨r, rfl, hF, hnew, s1⟩
      have hown := (HR.out.same_step s1).own
      have HF := Lib.hid (And.intro hF (And.intro hnew s1))
      have hz := s1.size
      have hzr := HR.out.same.size
      clear hF hnew s1
      go_wp2_with (at_builtin; refine wpList_append_own _ rfl _ _ 23 rfl w.heap.size 24 i0 (.pointer none) 1 8 Tryz.underlying23 hi hz0 hz1 hz2 rfl (by decide) _ _ _ rfl (hown.alloc _) ⟨w1.heap.size, 0, none⟩ 1 1 [.pointer (some ⟨r.b, 0, none⟩)] rfl rfl ?c1 ?c2 ?c3 ?c4 ?c5 ?c6)
      case c1 =>
        intro j u hj
        rcases j with _ | j
        · simp at hj; subst hj; exact (Blk.new w1 _ _).cellAt 0 rfl
        · simp at hj
      case c2 => intro u hu; simp at hu; subst hu; rfl
      case c3 => unfold maxLen; omega
      case c4 => omega
      case c5 => simp; omega
      case c6 =>
        intro v' w2 ho hgr hne
        have hrow' : FRow w w2 v' (rs ++ [r]) := by
          obtain ⟨hF, hnew, s1⟩ := HF.out
          exact ((HR.out.same_step s1).same_step ((Chg.refl _ _).alloc _)).step (hF.chg (S := fun _ => False) ((Chg.refl _ _).alloc _) (fun _ _ x => x)) (fun k hk => Nat.le_trans hzr (hnew k hk)) ⟨wr.heap.size, fun x hx k hk => (HR.out.fut x hx).lt k hk, hnew⟩ ho hgr
        have HR' := Lib.hid hrow'
        clear hrow' ho hgr hne hown HF HR hz hzr
        go_wp2_with fail
        go_roundw
        case rel =>
          have hl : ((rs ++ [r]).length : Int) = rs.length + 1 := by simp
          first | exact ⟨rs ++ [r], by simp; omega, by rw [hl], HR'.out⟩ | exact ⟨rs ++ [r], by simp; omega, by rw [hl], HR'.out, trivial⟩
        case measure => simp [intOf]; omega
    · obtain rfl : rs.length = n := by omega
      clear hrow
      obtain ⟨hb0, hb1, hb2⟩ := hbad
      obtain ⟨g, c, cur, rfl, hgw, hB, hcur⟩ := HR.out.blk hb0
      obtain ⟨m, rfl⟩ := Int.eq_ofNat_of_zero_le hb1
      have hm : m < rs.length := by omega
      have d0 := hB.cellAt m (v := .pointer (some ⟨(rs[m]).b, 0, none⟩)) (hcur m hm)
      have z0 := hB.free m
      have hsz := HR.out.same.size
      have hsr := (hcur m hm)
      have hms : m < cur.size := (Array.getElem?_eq_some_iff.1 hsr).1
      have HB := Lib.hid (And.intro hB (And.intro hcur hgw))
      by_cases hp : m % 2 = 1
      · have hpb : ((m : Int) % 2 == 1) = true := beq_iff_eq.2 (by omega)
        have hB1 := (hB.set m (.pointer none)).alloc (.cells #[.pointer none, .pointer none, .int .i64 0, .nilIface] 31)
        have d1 := hB1.cellAt m (v := .pointer none) (by rw [Array.getElem?_setIfInBounds_self_of_lt hms])
        have z1 := hB1.free m
        clear hB hcur hsr hp hgw hB1
        go_wp2_with fail
        have HPS : Hid (∃ ps, ps.length = rs.length ∧ Ptrs (((wr.setCell ⟨g, m, none⟩ (.pointer none)).alloc (.cells #[.pointer none, .pointer none, .int .i64 0, .nilIface] 31)).setCell ⟨g, m, none⟩ (.pointer (some ⟨wr.heap.size, 0, none⟩))) (.slice (some ⟨g, 0, none⟩) rs.length c) ps ∧ OneBad (((wr.setCell ⟨g, m, none⟩ (.pointer none)).alloc (.cells #[.pointer none, .pointer none, .int .i64 0, .nilIface] 31)).setCell ⟨g, m, none⟩ (.pointer (some ⟨wr.heap.size, 0, none⟩))) ps) := by
          refine Lib.hid ?_
          obtain ⟨hB, hcur, hgw⟩ := HB.out
          have hc1 : Chg (· = g) wr (wr.setCell ⟨g, m, none⟩ (.pointer none)) := (Chg.refl (· = g) wr).setCell (p := ⟨g, m, none⟩) (.inl rfl) _
          have hc2 : Chg (· = g) wr (((wr.setCell ⟨g, m, none⟩ (.pointer none)).alloc (.cells #[.pointer none, .pointer none, .int .i64 0, .nilIface] 31)).setCell ⟨g, m, none⟩ (.pointer (some ⟨wr.heap.size, 0, none⟩))) := (hc1.alloc _).setCell (p := ⟨g, m, none⟩) (.inl rfl) _
          refine bad_row (T := 24) (x := some ⟨wr.heap.size, 0, none⟩) (((hB.set m (.pointer none)).alloc _).set m _) hm (by omega) ?_ (fun j hj hjm => ?_) (fun r hr => (HR.out.fut r hr).chg hc2 (fun k hk e => (HR.out.fut r hr).ne_blk hB (by decide) (by decide) (by decide) (by decide) (e ▸ hk))) ?_
          · rw [Array.getElem?_setIfInBounds_self_of_lt (by simpa using hms)]
          · rw [Array.getElem?_setIfInBounds_ne (by omega), Array.getElem?_setIfInBounds_ne (by omega)]; exact hcur j hj
          · refine .inr ⟨wr.heap.size, #[.pointer none, .pointer none, .int .i64 0, .nilIface], rfl, ?_, rfl⟩
            have hl := hB.lt
            exact (Blk.neww (by simp) _ _).set_other (a := ⟨g, m, none⟩) (by show g ≠ _; omega) _
        have HS3 : Hid (Same w (((wr.setCell ⟨g, m, none⟩ (.pointer none)).alloc (.cells #[.pointer none, .pointer none, .int .i64 0, .nilIface] 31)).setCell ⟨g, m, none⟩ (.pointer (some ⟨wr.heap.size, 0, none⟩)))) := Lib.hid (((HR.out.same.setCell (p := ⟨g, m, none⟩) (.inr HB.out.2.2) _).alloc _).setCell (p := ⟨g, m, none⟩) (.inr HB.out.2.2) _)
        clear d0 z0 d1 z1 HB hms
        generalize ((wr.setCell ⟨g, m, none⟩ (.pointer none)).alloc (.cells #[.pointer none, .pointer none, .int .i64 0, .nilIface] 31)).setCell ⟨g, m, none⟩ (.pointer (some ⟨wr.heap.size, 0, none⟩)) = W3 at *
        have hE3 := HPS.out
        obtain ⟨ps, hps, hP, hO⟩ := HPS.out
        have hab := all_bad W3 _ ps hP hO
        have hnb := any_bad W3 _ ps hP hO
        have hqb := quorum_bad W3 k _ ps hP hO
        have HAB := Lib.hid (And.intro hab (And.intro hnb hqb))
        clear hE3 hps hP hO hab hnb hqb HPS
        refine HAB.out.1.mono ?_
        rintro e _ ⟨rfl, rfl⟩
        go_wp2_with fail
        refine HAB.out.2.1.mono ?_
        rintro e _ ⟨rfl, rfl⟩
        go_wp2_with fail
        refine HAB.out.2.2.mono ?_
        rintro e _ ⟨rfl, rfl⟩
        go_wp2_with fail
        have bJ : Blk (W3.alloc (.cells #[.pointer none, .pointer none, .slice none 0 0] 41)) W3.heap.size #[.pointer none, .pointer none, .slice none 0 0] 41 := Blk.new _ _ _
        have sJ : Same W3 (W3.alloc (.cells #[.pointer none, .pointer none, .slice none 0 0] 41)) := (Chg.refl _ _).alloc _
        generalize W3.alloc (.cells #[.pointer none, .pointer none, .slice none 0 0] 41) = W4 at *
        generalize W3.heap.size = bj at *
        refine (joint_values_none _).mono ?_
        rintro e _ ⟨rfl, rfl⟩
        go_wp2_with fail
        refine (joint_values_bare _ _ _ _ bJ).mono ?_
        rintro e _ ⟨rfl, rfl⟩
        go_wp2_with fail
        refine (joint_future_none _).mono ?_
        rintro e _ ⟨rfl, rfl⟩
        go_wp2_with fail
        refine (joint_future _ _ _ _ _ none bJ rfl).mono ?_
        rintro e _ ⟨rfl, rfl⟩
        have hE4 : ErrType W4 ∧ 0 < W4.heap.size := ⟨HE.out.1.same ((HS3.out).trans sJ) HE.out.2, by have := HE.out.2; have := ((HS3.out).trans sJ).size; omega⟩
        have HS4 := Lib.hid ((HS3.out).trans sJ)
        clear bJ sJ
        have HE4 := Lib.hid hE4
        clear hE4
        go_wp2_with fail
        refine (class_any (l := []) (B := some (.errno 2)) W4 rfl HE4.out.1 HE4.out.2).mono ?_
        rintro e W5 ⟨rfl, s5⟩
        have HS5 := Lib.hid s5
        clear s5
        go_wp2_with fail
        refine (class_any (l := []) (B := some (.errno 2)) W5 rfl (HE4.out.1.same HS5.out HE4.out.2) (by have := HE4.out.2; have := HS5.out.size; omega)).mono ?_
        rintro e W6 ⟨rfl, s6⟩
        have HS6 := Lib.hid ((HS4.out.trans HS5.out).trans s6)
        clear s6
        go_wp2_with fail
        refine (works16 W6).mono ?_
        rintro e W7 ⟨rfl, s7⟩
        have HS7 := Lib.hid (HS6.out.trans s7)
        clear s7
        go_wp2_with fail
        go_ret
        exact ⟨rfl, HS7.out⟩
      · have hpb : ((m : Int) % 2 == 1) = false := beq_eq_false_iff_ne.2 (by omega)
        clear hB hcur hsr hp hgw
        go_wp2_with fail
        have HPS : Hid (∃ ps, ps.length = rs.length ∧ Ptrs (wr.setCell ⟨g, m, none⟩ (.pointer none)) (.slice (some ⟨g, 0, none⟩) rs.length c) ps ∧ OneBad (wr.setCell ⟨g, m, none⟩ (.pointer none)) ps) := by
          refine Lib.hid ?_
          obtain ⟨hB, hcur, hgw⟩ := HB.out
          have hc1 : Chg (· = g) wr (wr.setCell ⟨g, m, none⟩ (.pointer none)) := (Chg.refl (· = g) wr).setCell (p := ⟨g, m, none⟩) (.inl rfl) _
          refine bad_row (T := 24) (x := none) (hB.set m _) hm (by omega) ?_ (fun j hj hjm => ?_) (fun r hr => (HR.out.fut r hr).chg hc1 (fun k hk e => (HR.out.fut r hr).ne_blk hB (by decide) (by decide) (by decide) (by decide) (e ▸ hk))) (.inl rfl)
          · rw [Array.getElem?_setIfInBounds_self_of_lt hms]
          · rw [Array.getElem?_setIfInBounds_ne (by omega)]; exact hcur j hj
        have HS3 : Hid (Same w (wr.setCell ⟨g, m, none⟩ (.pointer none))) := Lib.hid (HR.out.same.setCell (p := ⟨g, m, none⟩) (.inr HB.out.2.2) _)
        clear d0 z0 HB hms
        generalize wr.setCell ⟨g, m, none⟩ (.pointer none) = W3 at *
        have hE3 := HPS.out
        obtain ⟨ps, hps, hP, hO⟩ := HPS.out
        have hab := all_bad W3 _ ps hP hO
        have hnb := any_bad W3 _ ps hP hO
        have hqb := quorum_bad W3 k _ ps hP hO
        have HAB := Lib.hid (And.intro hab (And.intro hnb hqb))
        clear hE3 hps hP hO hab hnb hqb HPS
        refine HAB.out.1.mono ?_
        rintro e _ ⟨rfl, rfl⟩
        go_wp2_with fail
        refine HAB.out.2.1.mono ?_
        rintro e _ ⟨rfl, rfl⟩
        go_wp2_with fail
        refine HAB.out.2.2.mono ?_
        rintro e _ ⟨rfl, rfl⟩
        go_wp2_with fail
        have bJ : Blk (W3.alloc (.cells #[.pointer none, .pointer none, .slice none 0 0] 41)) W3.heap.size #[.pointer none, .pointer none, .slice none 0 0] 41 := Blk.new _ _ _
        have sJ : Same W3 (W3.alloc (.cells #[.pointer none, .pointer none, .slice none 0 0] 41)) := (Chg.refl _ _).alloc _
        generalize W3.alloc (.cells #[.pointer none, .pointer none, .slice none 0 0] 41) = W4 at *
        generalize W3.heap.size = bj at *
        refine (joint_values_none _).mono ?_
        rintro e _ ⟨rfl, rfl⟩
        go_wp2_with fail
        refine (joint_values_bare _ _ _ _ bJ).mono ?_
        rintro e _ ⟨rfl, rfl⟩
        go_wp2_with fail
        refine (joint_future_none _).mono ?_
        rintro e _ ⟨rfl, rfl⟩
        go_wp2_with fail
        refine (joint_future _ _ _ _ _ none bJ rfl).mono ?_
        rintro e _ ⟨rfl, rfl⟩
        have hE4 : ErrType W4 ∧ 0 < W4.heap.size := ⟨HE.out.1.same ((HS3.out).trans sJ) HE.out.2, by have := HE.out.2; have := ((HS3.out).trans sJ).size; omega⟩
        have HS4 := Lib.hid ((HS3.out).trans sJ)
        clear bJ sJ
        have HE4 := Lib.hid hE4
        clear hE4
        go_wp2_with fail
        refine (class_any (l := []) (B := some (.errno 2)) W4 rfl HE4.out.1 HE4.out.2).mono ?_
        rintro e W5 ⟨rfl, s5⟩
        have HS5 := Lib.hid s5
        clear s5
        go_wp2_with fail
        refine (class_any (l := []) (B := some (.errno 2)) W5 rfl (HE4.out.1.same HS5.out HE4.out.2) (by have := HE4.out.2; have := HS5.out.size; omega)).mono ?_
        rintro e W6 ⟨rfl, s6⟩
        have HS6 := Lib.hid ((HS4.out.trans HS5.out).trans s6)
        clear s6
        go_wp2_with fail
        refine (works16 W6).mono ?_
        rintro e W7 ⟨rfl, s7⟩
        have HS7 := Lib.hid (HS6.out.trans s7)
        clear s7
        go_wp2_with fail
        go_ret
        exact ⟨rfl, HS7.out⟩
end Go.Proofs.YtgljjgmfhememaaGreatDoor
