/- treadlelaw17.LimitNone, its walk. Conditions: errors.errorType holds what the program lays. -/
import Derived.Test.YtgljjgmfhememaaGreatDoorWorks17
namespace Go.Proofs.YtgljjgmfhememaaGreatDoor
open Go Go.RowKit Go.Sort
set_option maxRecDepth 100000
set_option maxHeartbeats 4000000
theorem limitNone_law (d : Int) (w : World) (d1 : d ≤ 9223372036854775807) (hg : ErrType w) (hl : 0 < w.heap.size) :
    Calls Tryz.prog 4 #[.int .i64 d] w fun e w' => e = .returned (.bool true) ∧ Same w w' := by
  have HE := Lib.hid (And.intro hg hl)
  clear hg hl
  go_enter Tryz.func4, Tryz.ntmps4
  go_wp2_with fail
  refine (clk_new w).mono ?_
  rintro e w1 ⟨rfl, hck1, s1⟩
  have H1 := Lib.hid (And.intro hck1 s1)
  clear hck1 s1
  go_wp2_with fail
  refine (tok_new w1).mono ?_
  rintro e w2 ⟨r, rfl, hr, hrn, s2⟩
  have H2 := Lib.hid (And.intro hr (And.intro hrn s2))
  clear hr hrn s2
  go_wp2_with fail
  refine (fut_new_g w2).mono ?_
  rintro e w3 ⟨ra, rfl, hA, hra, s3⟩
  have H3 := Lib.hid (And.intro hA (And.intro hra s3))
  clear hA hra s3
  generalize hN : w.heap.size = N at *
  have HN := Lib.hid hN
  clear hN
  go_wp2_with fail
  refine (within_none_clk none _ d (.inl rfl)).mono ?_
  rintro e w4 ⟨rfl, s4⟩
  have H4 := Lib.hid s4
  clear s4
  go_wp2_with fail
  refine (within_none_fut (((H1.out.1.chg H2.out.2.2 (fun _ _ _ x => x)).chg H3.out.2.2 (fun _ _ _ x => x)).chg H4.out (fun _ _ _ x => x)) d).mono ?_
  rintro e w5 ⟨rfl, s5⟩
  have H5 := Lib.hid s5
  clear s5
  go_wp2_with fail
  refine (within_none_clk (some ⟨w5.heap.size, 0, none⟩) _ d (.inr ⟨_, _, rfl, Blk.new w5 _ _, rfl⟩)).mono ?_
  rintro e w6 ⟨rfl, s6⟩
  have H6 := Lib.hid (show Same w5 w6 from ((Chg.refl _ w5).alloc _).trans s6)
  clear s6
  go_wp2_with fail
  refine (deadline_none_clk none _ d (.inl rfl)).mono ?_
  rintro e w7 ⟨rfl, s7⟩
  have H7 := Lib.hid s7
  clear s7
  go_wp2_with fail
  have hck7 := (((((H1.out.1.chg H2.out.2.2 (fun _ _ _ x => x)).chg H3.out.2.2 (fun _ _ _ x => x)).chg H4.out (fun _ _ _ x => x)).chg H5.out (fun _ _ _ x => x)).chg H6.out (fun _ _ _ x => x)).chg H7.out (fun _ _ _ x => x)
  refine (deadline_bare (hck7.chg ((Chg.refl (fun _ => False) w7).alloc _) (fun _ _ _ x => x)) w7.heap.size _ (Blk.new w7 _ _) rfl d).mono ?_
  rintro e w8 ⟨rfl, s8⟩
  have s8' : Same w7 w8 := ((Chg.refl _ w7).alloc _).trans s8
  have s48 : Same w3 w8 := (((H4.out.trans H5.out).trans H6.out).trans H7.out).trans s8'
  have H8 := Lib.hid (And.intro (hck7.chg s8' (fun _ _ _ x => x)) s48)
  clear s8 s8' s48 hck7 H4 H5 H6 H7
  go_wp2_with fail
  have hg8 : ErrType w8 ∧ 0 < w8.heap.size := by
    have sA : Same w w8 := (((H1.out.2.trans H2.out.2.2).trans H3.out.2.2).trans H8.out.2)
    have hlt : 0 < w.heap.size := HN.out.symm ▸ HE.out.2
    exact ⟨HE.out.1.same sA hlt, Nat.lt_of_lt_of_le hlt sA.size⟩
  have HG := Lib.hid hg8
  clear hg8
  by_cases hd : d < 0
  · have e0 : decide (d < 0) = true := decide_eq_true hd
    refine (within_neg H8.out.1 ra [] ((H3.out.1.chg H8.out.2 (fun _ _ x => x))) d hd).mono ?_
    rintro e w9 ⟨rfl, s9⟩
    have H9 := Lib.hid s9
    clear s9
    go_wp2_with fail
    refine (deadline_neg (H8.out.1.chg H9.out (fun _ _ _ x => x)) r epl0 (((H2.out.1.chg H3.out.2.2 (fun _ _ x => x)).chg H8.out.2 (fun _ _ x => x)).chg H9.out (fun _ _ x => x)) d hd).mono ?_
    rintro e w10 ⟨rfl, s10⟩
    have H10 := Lib.hid s10
    clear s10
    go_wp2_with fail
    have s8 : Same w8 w10 := H9.out.trans H10.out
    refine (works17 w10 (HG.out.1.same s8 HG.out.2) (Nat.lt_of_lt_of_le HG.out.2 s8.size)).mono ?_
    rintro e w11 ⟨rfl, s11⟩
    have H11 := Lib.hid (And.intro s8 s11)
    clear s8 s11
    go_wp2_with fail
    go_ret
    exact ⟨rfl, ((((H1.out.2.trans H2.out.2.2).trans H3.out.2.2).trans H8.out.2).trans H11.out.1).trans H11.out.2⟩
  · have e0 : decide (d < 0) = false := decide_eq_false hd
    have n1 : N + 34 < w1.heap.size := H1.out.1.lt
    have z12 := H2.out.2.2.size
    have z23 := H3.out.2.2.size
    have rN : ∀ k, r.has k → N + 35 ≤ k := fun k hk => by have := H2.out.2.1 k hk; omega
    have raN : ∀ k, ra.has k → N + 35 ≤ k := fun k hk => by have := H3.out.2.1 k hk; omega
    have rT : ∀ k, r.has k → ¬ Turned N k := fun k hk e => by have := rN k hk; unfold Turned at e; omega
    have raT : ∀ k, ra.has k → ¬ Turned N k := fun k hk e => by have := raN k hk; unfold Turned at e; omega
    have rra : ∀ k, r.has k → ¬ ra.has k := fun k hk hk' => by have := H2.out.1.lt k hk; have := H3.out.2.1 k hk'; omega
    obtain ⟨T, hT⟩ : ∃ T, T = 0 + min d (4611686018427387904 - 0) := ⟨_, rfl⟩
    have hwi := within_open ra 0 (by omega) (fun i hi => ⟨by simp, by simp⟩) (by decide) (fun i hi => by omega) raT H8.out.1 ⟨by omega, by omega⟩ [] (by simp) (H3.out.1.chg H8.out.2 (fun _ _ x => x)) d (by omega) d1 T hT
    have HW := Lib.hid hwi
    have HT := Lib.hid hT
    have HA := Lib.hid (And.intro rN (And.intro raN (And.intro rT (And.intro raT (And.intro rra (And.intro n1 (And.intro z12 z23)))))))
    clear hwi rN raN rT raT rra n1 z12 z23 hT
    refine HW.out.mono ?_
    rintro e w9 ⟨g, ka, kb, tb1, xb1, rfl, hb9, hg9, _, hck9, hc9⟩
    have H9 := Lib.hid (And.intro hb9 (And.intro hg9 (And.intro hck9 hc9)))
    clear hb9 hg9 hck9 hc9 HW
    go_wp2_with fail
    have hr9 := ((H2.out.1.chg H3.out.2.2 (fun _ _ x => x)).chg H8.out.2 (fun _ _ x => x)).chg H9.out.2.2.2 (fun k hk e => e.elim (HA.out.2.2.2.2.1 k hk) (HA.out.2.2.1 k hk))
    have hwd := deadline_open r 1 (by omega) (fun i hi => by obtain rfl | rfl : i = 0 ∨ i = 1 := (by omega)
                                                             all_goals simp [upd]) (by simp [upd]) (fun i hi => by obtain rfl : i = 0 := (by omega)
                                                                                                                   simp [upd]) HA.out.2.2.1 H9.out.2.2.1 ⟨by omega, by omega⟩ epl0 hr9 d (by omega) d1 T HT.out
    have HW := Lib.hid hwd
    clear hwd hr9
    refine HW.out.mono ?_
    rintro e w10 ⟨c, cb, tb, xb, plr, rfl, hcc, htc, htr, hck10, hc10⟩
    have H10 := Lib.hid (And.intro hcc (And.intro htc (And.intro htr (And.intro hck10 hc10))))
    clear hcc htc htr hck10 hc10 HW
    go_wp2_with fail
    obtain ⟨st3, due3, fs3, hck3, s0, s1, s2, u0, u1, f0, f1⟩ : ∃ (st3 due3 : Nat → Int) (fs3 : Nat → Value), Clk w10 N 0 0 st3 due3 fs3 ∧ st3 0 = 2 ∧ st3 1 = 2 ∧ (∀ i, 2 ≤ i → st3 i = 0) ∧ due3 0 = T ∧ due3 1 = T ∧
        fs3 0 = .func (.func 72) #[] #[.pointer (some ⟨ka, 0, none⟩), .pointer (some ⟨kb, 0, none⟩)] ∧ fs3 1 = deF cb :=
      ⟨_, _, _, H10.out.2.2.2.1, by simp [upd], by simp [upd], fun i hi => by simp only [upd]; rw [if_neg (by omega), if_neg (by omega)], by simp [upd], by simp [upd], by simp [upd], by simp [upd]⟩
    obtain ⟨hb9, hg9, _, hc9⟩ := H9.out
    obtain ⟨⟨hcb, htb, hxb, nc1, nc2, nc3, nc4⟩, htc, htr, _, hc10⟩ := H10.out
    obtain ⟨rN, raN, rT, raT, rra, q1, z12, z23⟩ := HA.out
    have z38 := H8.out.2.size
    have z89 := hc9.size
    have z910 := hc10.size
    have hN := HN.out
    have rl := H2.out.1.lt
    have gl := hg9.lt
    have b3 := hb9.ng
    have b1 := hb9.na
    have b2 := hb9.nb
    have l1 := hb9.ga.lt
    have l2 := hb9.at_.lt
    have xb7' : Blk w10 xb #[.int .i64 (1 : Nat), .int .i64 2] 151 := by
      have e : upd (fun _ => (0 : Int)) 0 (0 + 2) 1 + 2 = 2 := by simp [upd]
      rw [e] at hxb
      exact hxb
    have m9 : ∀ k, w8.heap.size ≤ k → ¬ (r.has k ∨ Turned N k) := fun k hk e => by
      rcases e with e | e
      · have := rl k e; omega
      · unfold Turned at e; omega
    have hok : (P2.mk N w10.heap.size 0 1 g ka kb c cb tb xb T 2).Ok := ok_two (by omega) (by omega) (by omega) (by omega) hb9 hg9 z89 (Nat.le_refl _) z910 (Nat.le_refl _) hcb htb xb7' nc1 nc2 nc3 nc4 htc ⟨by omega, by omega⟩ (by decide)
    have hrs : ∀ k, r.has k → ¬ (P2.mk N w10.heap.size 0 1 g ka kb c cb tb xb T 2).S k := fun k hk e => by
      have h2 := rl k hk
      rcases e with e | e | e
      · have h1 := b3 k e; omega
      · have h1 := nc4 k e; omega
      · exact rT k hk e
    have same10 : Same w w10 := by
      have sA := (((H1.out.2.trans H2.out.2.2).trans H3.out.2.2).trans H8.out.2)
      exact (sA.trans' hc9 (fun k hk e => by
        rcases e with e | e
        · have := raN k e; omega
        · unfold Turned at e; omega)).trans' hc10 (fun k hk e => by
        rcases e with e | e
        · have := rN k e; omega
        · unfold Turned at e; omega)
    have hI : (P2.mk N w10.heap.size 0 1 g ka kb c cb tb xb T 2).I w (fun W => Tok W r 0 1 1 plr 0) [] w10 :=
      ⟨same10, Nat.le_refl _, hc10.blk hb9.ga (m9 _ b1), hc10.blk hb9.at_ (m9 _ b2), hcb, htb, xb7', fun h => (by cases h), fun _ => hg9.chg hc10 (fun k hk => m9 k (b3 k hk)), fun h => (by cases h), fun _ => htc, htr⟩
    have hadv := advance_two (P2.mk N w10.heap.size 0 1 g ka kb c cb tb xb T 2) hok w (Nat.le_of_eq hN) (fun W => Tok W r 0 1 1 plr 0) (fun W W' S hS hc hv => Tok.chg hv hc (fun k hk e => hrs k hk (hS k e))) 0 T st3 due3 fs3 w10 hck3
      (fun i hi => by
        by_cases e0 : i = 0
        · subst e0; omega
        · by_cases e1 : i = 1
          · subst e1; omega
          · have := s2 i (by omega); omega) s1
      (fun i hi hc => by
        have h := hc.1
        by_cases e0 : i = 0
        · exact .inl e0
        · by_cases e1 : i = 1
          · exact .inr e1
          · have := s2 i (by omega); omega)
      ⟨by show st3 0 % 4 = 2; rw [s0]; decide, by show due3 0 ≤ T; omega⟩ ⟨by show st3 1 % 4 = 2; rw [s1]; decide, by show due3 1 ≤ T; omega⟩ f0 f1 ⟨by omega, by omega⟩ d (by omega) d1 HT.out hI
    have HAD := Lib.hid hadv
    clear hadv hI hok hrs same10 xb7' m9 hck3 s0 s1 s2 u0 u1 f0 f1 hb9 hg9 hc9 hcb htb hxb nc1 nc2 nc3 nc4 htc htr hc10 rN raN rT raT rra q1 z12 z23 z38 z89 z910 hN rl gl b3 b1 b2 l1 l2
    clear H1 H2 H3 H8 H9 H10 HA HG
    refine HAD.out.mono ?_
    rintro e w11 ⟨rfl, hl11, hd11, hr11, s11⟩
    have H11 := Lib.hid (And.intro hl11 (And.intro hd11 (And.intro hr11 s11)))
    clear hl11 hd11 hr11 s11 HAD
    go_wp2_with fail
    refine (late_await g T w10.heap.size H11.out.1).mono ?_
    rintro e w12 ⟨eb, rfl, hb12, s12⟩
    have H12 := Lib.hid (And.intro hb12 s12)
    clear hb12 s12
    go_wp2_with fail
    have sall : Same w w12 := H11.out.2.2.2.trans H12.out.2
    have hlt : 0 < w.heap.size := HN.out.symm ▸ HE.out.2
    have hg12 : ErrType w12 ∧ 0 < w12.heap.size := ⟨HE.out.1.same sall hlt, Nat.lt_of_lt_of_le hlt sall.size⟩
    refine (class_any (l := []) (B := some (.late T)) w12 ⟨eb, rfl, H12.out.1⟩ hg12.1 hg12.2).mono ?_
    rintro e w13 ⟨rfl, s13⟩
    have H13 := Lib.hid (And.intro sall (And.intro hg12 s13))
    clear s13 sall hg12 hlt
    go_wp2_with fail
    refine (dead_reason (((H11.out.2.1.chg H12.out.2 (fun _ _ x => x)).chg H13.out.2.2 (fun _ _ x => x)))).mono ?_
    rintro e _ ⟨rfl, rfl⟩
    go_wp2_with fail
    refine (tok_reason (((H11.out.2.2.1.chg H12.out.2 (fun _ _ x => x)).chg H13.out.2.2 (fun _ _ x => x)))).mono ?_
    rintro e _ ⟨rfl, rfl⟩
    go_wp2_with fail
    refine (works17 w13 (H13.out.2.1.1.same H13.out.2.2 H13.out.2.1.2) (Nat.lt_of_lt_of_le H13.out.2.1.2 H13.out.2.2.size)).mono ?_
    rintro e w14 ⟨rfl, s14⟩
    have H14 := Lib.hid s14
    clear s14
    go_wp2_with fail
    go_ret
    exact ⟨rfl, (H13.out.1.trans H13.out.2.2).trans H14.out⟩
end Go.Proofs.YtgljjgmfhememaaGreatDoor
