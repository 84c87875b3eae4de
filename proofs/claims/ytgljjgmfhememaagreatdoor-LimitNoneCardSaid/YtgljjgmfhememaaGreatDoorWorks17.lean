/- treadlelaw17.works answers true, and all memory is as it was. Conditions: errors.errorType holds what the program lays. -/
import Derived.Test.YtgljjgmfhememaaGreatDoorLimG
import Derived.Test.YtgljjgmfhememaaGreatDoorClass
namespace Go.Proofs.YtgljjgmfhememaaGreatDoor
open Go Go.RowKit Go.Sort
set_option maxRecDepth 100000
set_option maxHeartbeats 4000000
theorem works17 (w : World) (hg : ErrType w) (hl : 0 < w.heap.size) : Calls Tryz.prog 23 #[] w fun e w' => e = .returned (.bool true) ∧ Same w w' := by
  have HE := Lib.hid (And.intro hg hl)
  have hnn : ∀ w, (binOp .eql 29 .nilIface .nilIface).run Tryz.prog w = .ok (.bool true) w := fun w => by kernel_rfl
  clear hg hl
  go_enter Tryz.func23, Tryz.ntmps23
  go_wp2_with fail
  refine (clk_new w).mono ?_
  rintro e w1 ⟨rfl, hck1, s1⟩
  have H1 := Lib.hid (And.intro hck1 s1)
  clear hck1 s1
  go_wp2_with fail
  refine (fut_new_g w1).mono ?_
  rintro e w2 ⟨ra, rfl, hA, hra, s2⟩
  have H2 := Lib.hid (And.intro hA (And.intro hra s2))
  clear hA hra s2
  go_wp2_with fail
  refine (fut_new_g w2).mono ?_
  rintro e w3 ⟨rb, rfl, hB, hrb, s3⟩
  have H3 := Lib.hid (And.intro hB (And.intro hrb s3))
  clear hB hrb s3
  go_wp2_with fail
  generalize hN : w.heap.size = N at *
  have HN := Lib.hid hN
  clear hN
  -- the first
  have n1 : N + 34 < w1.heap.size := H1.out.1.lt
  have m23 := H3.out.2.2
  have z12 := H2.out.2.2.size
  have z23 := H3.out.2.2.size
  have raN : ∀ k, ra.has k → N + 35 ≤ k := fun k hk => by have := H2.out.2.1 k hk; omega
  have rbN : ∀ k, rb.has k → N + 35 ≤ k := fun k hk => by have := H3.out.2.1 k hk; omega
  have raT : ∀ k, ra.has k → ¬ Turned N k := fun k hk e => by have := raN k hk; unfold Turned at e; omega
  have rbT : ∀ k, rb.has k → ¬ Turned N k := fun k hk e => by have := rbN k hk; unfold Turned at e; omega
  have rab : ∀ k, ra.has k → ¬ rb.has k := fun k hk hk' => by have := H2.out.1.lt k hk; have := H3.out.2.1 k hk'; omega
  have hck3 := (H1.out.1.chg H2.out.2.2 (fun _ _ _ x => x)).chg H3.out.2.2 (fun _ _ _ x => x)
  have hwi := within_open ra 0 (by omega) (fun i hi => ⟨by simp, by simp⟩) (by decide) (fun i hi => by omega) raT hck3 ⟨by omega, by omega⟩ [] (by simp) (H2.out.1.chg m23 (fun _ _ x => x)) 3 (by omega) (by omega) 3 (by decide)
  have HW := Lib.hid hwi
  have HA := Lib.hid (And.intro raN (And.intro rbN (And.intro raT (And.intro rbT (And.intro rab (And.intro n1 (And.intro z12 z23)))))))
  clear hwi hck3 m23 raN rbN raT rbT rab n1 z12 z23
  refine HW.out.mono ?_
  rintro e w4 ⟨g1, ka1, kb1, tb1, xb1, rfl, hb1, hg1, hra1, hck4, hc4⟩
  have H4 := Lib.hid (And.intro hb1 (And.intro hg1 (And.intro hra1 (And.intro hck4 hc4))))
  clear hb1 hg1 hra1 hck4 hc4 HW
  go_wp2_with fail
  have hw2 := within_open rb 1 (by omega) (fun i hi => by obtain rfl | rfl : i = 0 ∨ i = 1 := (by omega)
                                                          all_goals simp [upd]) (by simp [upd]) (fun i hi => by obtain rfl : i = 0 := (by omega)
                                                                                                                simp [upd]) HA.out.2.2.2.1 H4.out.2.2.2.1 ⟨by omega, by omega⟩ [] (by simp)
    (H3.out.1.chg H4.out.2.2.2.2 (fun k hk e => e.elim (fun e => HA.out.2.2.2.2.1 k e hk) (HA.out.2.2.2.1 k hk))) 3 (by omega) (by omega) 3 (by decide)
  have HW := Lib.hid hw2
  clear hw2
  refine HW.out.mono ?_
  rintro e w5 ⟨g2, ka2, kb2, tb2, xb2, rfl, hb2, hg2, hrb2, hck5, hc5⟩
  have H5 := Lib.hid (And.intro hb2 (And.intro hg2 (And.intro hrb2 (And.intro hck5 hc5))))
  clear hb2 hg2 hrb2 hck5 hc5 HW
  go_wp2_with fail
  refine (tok_new w5).mono ?_
  rintro e w6 ⟨r, rfl, hr, hrn, s6⟩
  have H6 := Lib.hid (And.intro hr (And.intro hrn s6))
  clear hr hrn s6
  go_wp2_with fail
  have z34 := H4.out.2.2.2.2.size
  have z45 := H5.out.2.2.2.2.size
  have z56 := H6.out.2.2.size
  have rT : ∀ k, r.has k → ¬ Turned N k := fun k hk e => by have := H6.out.2.1 k hk; have := HA.out.2.2.2.2.2; unfold Turned at e; omega
  have hw3 := deadline_open r 2 (by omega) (fun i hi => by obtain rfl | rfl | rfl : i = 0 ∨ i = 1 ∨ i = 2 := (by omega)
                                                           all_goals simp [upd]) (by simp [upd]) (fun i hi => by obtain rfl | rfl : i = 0 ∨ i = 1 := (by omega)
                                                                                                                 all_goals simp [upd]) rT (H5.out.2.2.2.1.chg H6.out.2.2 (fun _ _ _ x => x)) ⟨by omega, by omega⟩ epl0 H6.out.1 4 (by omega) (by omega) 4 (by decide)
  have HW := Lib.hid hw3
  have HZ := Lib.hid (And.intro z34 (And.intro z45 (And.intro z56 rT)))
  clear hw3 z34 z45 z56 rT
  refine HW.out.mono ?_
  rintro e w7 ⟨c, cb, tb, xb, plr, rfl, hcc, htc, htr, hck7, hc7⟩
  have H7 := Lib.hid (And.intro hcc (And.intro htc (And.intro hck7 hc7)))
  clear hcc htc htr hck7 hc7 HW
  go_wp2_with fail
  obtain ⟨st3, due3, fs3, hck7, s0, s1, s2, s3, u1, u2, f1, f2⟩ : ∃ (st3 due3 : Nat → Int) (fs3 : Nat → Value), Clk w7 N 0 0 st3 due3 fs3 ∧ st3 0 = 2 ∧ st3 1 = 2 ∧ st3 2 = 2 ∧ (∀ i, 3 ≤ i → st3 i = 0) ∧ due3 1 = 3 ∧ due3 2 = 4 ∧
      fs3 1 = .func (.func 72) #[] #[.pointer (some ⟨ka2, 0, none⟩), .pointer (some ⟨kb2, 0, none⟩)] ∧ fs3 2 = deF cb :=
    ⟨_, _, _, H7.out.2.2.1, by simp [upd], by simp [upd], by simp [upd], fun i hi => by simp only [upd]; rw [if_neg (by omega), if_neg (by omega), if_neg (by omega)], by simp [upd], by simp [upd], by simp [upd], by simp [upd]⟩
  have HK := Lib.hid (And.intro hck7 (And.intro s0 (And.intro s1 (And.intro s2 (And.intro s3 (And.intro u1 (And.intro u2 (And.intro f1 f2))))))))
  obtain ⟨hb1, hg1, hra1, _, hc4⟩ := H4.out
  obtain ⟨hb2, hg2, _, _, hc5⟩ := H5.out
  obtain ⟨hr, hrn, s6⟩ := H6.out
  obtain ⟨⟨hcb, htb, hxb, nc1, nc2, nc3, nc4⟩, htc, _, hc7⟩ := H7.out
  obtain ⟨z34, z45, z56, rT⟩ := HZ.out
  obtain ⟨raN, rbN, raT, rbT, rab, q1, z12, z23⟩ := HA.out
  have z67 := hc7.size
  have rbl := H3.out.1.lt
  have ral := H2.out.1.lt
  have g1l := hg1.lt
  have g2l := hg2.lt
  have M57 : Chg (fun k => r.has k ∨ Turned N k) w5 w7 := (s6.mono (fun _ _ e => e.elim)).trans hc7
  have M47 : Chg (fun k => rb.has k ∨ r.has k ∨ Turned N k) w4 w7 := (hc5.mono (fun _ _ e => e.elim .inl (fun e => .inr (.inr e)))).trans (M57.mono (fun _ _ e => .inr e))
  have y4 : ∀ k, N + 35 ≤ k → k < w5.heap.size → ¬ (r.has k ∨ Turned N k) := fun k h1 h2 e => by
    rcases e with e | e
    · have := hrn k e; omega
    · unfold Turned at e; omega
  have y5 : ∀ k, N + 35 ≤ k → k < w5.heap.size → ¬ rb.has k → ¬ (rb.has k ∨ r.has k ∨ Turned N k) := fun k h1 h2 h3 e => e.elim h3 (y4 k h1 h2)
  have y3 : ∀ k, w3.heap.size ≤ k → ¬ rb.has k := fun k hk e => by have := rbl k e; omega
  have b1 := hb1.ga.lt
  have b2 := hb1.clk.lt
  have b3 := hb1.tim.lt
  have b4 := hb1.na
  have b5 := hb1.nt
  have b6 := hb1.nx
  have b7 := hb1.ng
  have b8 := hb2.ga.lt
  have b9 := hb2.at_.lt
  have b10 := hb2.na
  have b11 := hb2.nb
  have b12 := hb2.ng
  have ra7 := hra1.chg M47 (fun k hk => y5 k (raN k hk) (by have := ral k hk; omega) (rab k hk))
  have g17 := hg1.chg M47 (fun k hk => y5 k (by have := b7 k hk; omega) (by have := g1l k hk; omega) (y3 k (b7 k hk)))
  have ka17 := M47.blk hb1.ga (y5 _ (by omega) (by omega) (y3 _ b4))
  have tb17 := M47.blk hb1.clk (y5 _ (by omega) (by omega) (y3 _ b5))
  have xb17 := M47.blk hb1.tim (y5 _ (by omega) (by omega) (y3 _ b6))
  have g27 := hg2.chg M57 (fun k hk => y4 k (by have := b12 k hk; omega) (g2l k hk))
  have ka27 := M57.blk hb2.ga (y4 _ (by omega) (by omega))
  have kb27 := M57.blk hb2.at_ (y4 _ (by omega) (by omega))
  have xb17' : Blk w7 xb1 #[.int .i64 (0 : Nat), .int .i64 (st3 0)] 151 := by rw [s0]; exact xb17
  have xb7' : Blk w7 xb #[.int .i64 (2 : Nat), .int .i64 2] 151 := by
    have e : upd (upd (fun _ => (0 : Int)) 0 (0 + 2)) 1 (upd (fun _ => 0) 0 (0 + 2) 1 + 2) 2 + 2 = 2 := by simp [upd]
    rw [e] at hxb
    exact hxb
  have g1T : ∀ k, g1.has k → ¬ Turned N k := fun k hk e => by have := b7 k hk; unfold Turned at e; omega
  have rag : ∀ k, ra.has k → ¬ g1.has k := fun k hk e => by have := ral k hk; have := b7 k e; omega
  have cl := htc.lt
  have same7 : Same w w7 := by
    have hw := HN.out
    have sA := (H1.out.2.trans H2.out.2.2).trans H3.out.2.2
    have sB := sA.trans' hc4 (fun k hk e => by
      rcases e with e | e
      · have := raN k e; omega
      · unfold Turned at e; omega)
    exact sB.trans' M47 (fun k hk e => by
      rcases e with e | e | e
      · have := rbN k e; omega
      · have := hrn k e; omega
      · unfold Turned at e; omega)
  have hN := HN.out
  have HQ := Lib.hid (And.intro ra7 (And.intro g17 (And.intro ka17 (And.intro tb17 (And.intro xb17' (And.intro g1T (And.intro raT rag)))))))
  have HP := Lib.hid (And.intro g27 (And.intro ka27 (And.intro kb27 (And.intro hcb (And.intro htb (And.intro xb7' (And.intro htc same7)))))))
  have hokB : ∀ B, w7.heap.size ≤ B → (P2.mk N B 1 2 g2 ka2 kb2 c cb tb xb 3 2).Ok := fun B hB => ok_two (by omega) (by omega) (by omega) (by omega) hb2 hg2 z45 z56 z67 hB hcb htb xb7' nc1 nc2 nc3 nc4 htc ⟨by omega, by omega⟩ (by decide)
  have hg1s : ∀ B k, g1.has k → ¬ (P2.mk N B 1 2 g2 ka2 kb2 c cb tb xb 3 2).S k := fun B k hk e => by
    rcases e with e | e | e
    · have h1 := b12 k e
      have h2 := g1l k hk
      omega
    · have h1 := nc4 k e
      have h2 := g1l k hk
      omega
    · exact g1T k hk e
  have h78 : ∀ k, w4.heap.size ≤ k → ¬ (ra.has k ∨ g1.has k ∨ Turned N k) := fun k hk e => by
    rcases e with e | e | e
    · have := ral k e; omega
    · have := g1l k e; omega
    · unfold Turned at e; omega
  have hlow : ∀ k, k < w.heap.size → ¬ (ra.has k ∨ g1.has k ∨ Turned N k) := fun k hk e => by
    rcases e with e | e | e
    · have := raN k e; omega
    · have := b7 k e; omega
    · unfold Turned at e; omega
  have nn : w4.heap.size ≤ ka2 ∧ w4.heap.size ≤ kb2 ∧ w4.heap.size ≤ cb ∧ w4.heap.size ≤ tb ∧ w4.heap.size ≤ xb ∧ (∀ k, g2.has k → w4.heap.size ≤ k) ∧ ∀ k, c.has k → w4.heap.size ≤ k := ⟨by omega, by omega, by omega, by omega, by omega, fun k hk => b12 k hk, fun k hk => by have := nc4 k hk; omega⟩
  have HR := Lib.hid (And.intro hokB (And.intro hg1s (And.intro h78 (And.intro hlow nn))))
  clear hokB hg1s h78 hlow nn ra7 g17 ka17 tb17 xb17 xb17' g27 ka27 kb27 xb7' g1T rag cl same7 hN b1 b2 b3 b4 b5 b6 b7 b8 b9 b10 b11 b12 y3 y4 y5 M47 M57 z67 rbl ral g1l g2l raN rbN raT rbT rab q1 z12 z23 z34 z45 z56 rT hcb htb hxb nc1 nc2 nc3 nc4 htc hc7 hr hrn s6 hb2 hg2 hc5 hb1 hg1 hra1 hc4 hck7 s0 s1 s2 s3 u1 u2 f1 f2
  clear H1 H2 H3 H4 H5 H6 H7 HZ HA
  refine (complete_limited ra g1 ka1 tb1 xb1 0 (by omega) 5 (by have := HK.out.2.1; omega) (by rw [HK.out.2.1]; decide) HQ.out.1 HQ.out.2.2.1 HQ.out.2.2.2.1 HQ.out.2.2.2.2.1 HQ.out.2.1 HK.out.1 HQ.out.2.2.2.2.2.1 HQ.out.2.2.2.2.2.2.1 HQ.out.2.2.2.2.2.2.2).mono ?_
  rintro e w8 ⟨rfl, hv8, hck8, hc8⟩
  have H8 := Lib.hid (And.intro hv8 (And.intro hck8 hc8))
  clear hv8 hck8 hc8
  go_wp2_with fail
  have hI : (P2.mk N w8.heap.size 1 2 g2 ka2 kb2 c cb tb xb 3 2).I w (fun W => FutV W g1 5) [] w8 := by
    obtain ⟨hv8, hck8, hc8⟩ := H8.out
    obtain ⟨g27, ka27, kb27, hcb, htb, xb7, htc, same7⟩ := HP.out
    obtain ⟨_, _, h78, hlow, n1, n2, n3, n4, n5, n6, n7⟩ := HR.out
    exact ⟨same7.trans' hc8 hlow, Nat.le_refl _, hc8.blk ka27 (h78 _ n1), hc8.blk kb27 (h78 _ n2), hc8.blk hcb (h78 _ n3), hc8.blk htb (h78 _ n4), hc8.blk xb7 (h78 _ n5), fun h => (by cases h), fun _ => g27.chg hc8 (fun k hk => h78 k (n6 k hk)), fun h => (by cases h), fun _ => Tok.chg htc hc8 (fun k hk => h78 k (n7 k hk)), hv8⟩
  obtain ⟨hck7, s0, s1, s2, s3, u1, u2, f1, f2⟩ := HK.out
  have hall : ∀ i, upd st3 0 (st3 0 + 2) i = if i = 0 then 4 else st3 i := fun i => by unfold upd; rw [s0]; rfl
  have hadv := advance_two (P2.mk N w8.heap.size 1 2 g2 ka2 kb2 c cb tb xb 3 2) (HR.out.1 _ H8.out.2.2.size) w (Nat.le_of_eq HN.out) (fun W => FutV W g1 5) (fun W W' S hS hc hv => hv.chg hc (fun k hk e => HR.out.2.1 _ k hk (hS k e))) 0 9 _ due3 fs3 w8 H8.out.2.1
    (fun i hi => by
      rw [hall]
      by_cases e0 : i = 0
      · rw [if_pos e0]; omega
      · rw [if_neg e0]
        by_cases e1 : i = 1
        · subst e1; omega
        · by_cases e2 : i = 2
          · subst e2; omega
          · have := s3 i (by omega); omega)
    (by rw [hall]; exact s2)
    (fun i hi hc => by
      have h := hc.1
      rw [hall] at h
      by_cases e0 : i = 0
      · rw [if_pos e0] at h; omega
      · rw [if_neg e0] at h
        by_cases e1 : i = 1
        · exact .inl e1
        · by_cases e2 : i = 2
          · exact .inr e2
          · have := s3 i (by omega); omega)
    ⟨by rw [hall]; show (if (1 : Nat) = 0 then (4 : Int) else st3 1) % 4 = 2; rw [if_neg (by omega), s1]; decide, by show due3 1 ≤ 9; omega⟩ ⟨by rw [hall]; show (if (2 : Nat) = 0 then (4 : Int) else st3 2) % 4 = 2; rw [if_neg (by omega), s2]; decide, by show due3 2 ≤ 9; omega⟩ f1 f2 ⟨by omega, by omega⟩ 9 (by omega) (by omega) (by decide) hI
  have HAD := Lib.hid hadv
  clear hadv hI hall hck7 s0 s1 s2 s3 u1 u2 f1 f2
  refine HAD.out.mono ?_
  rintro e w9 ⟨rfl, hl9, hd9, hv9, s9⟩
  have H9 := Lib.hid (And.intro hl9 (And.intro hd9 (And.intro hv9 s9)))
  clear hl9 hd9 hv9 s9
  go_wp2_with fail
  refine (await_done _ _ _ H9.out.2.2.1).mono ?_
  rintro e w10 ⟨rfl, s10⟩
  have H10 := Lib.hid s10
  clear s10
  go_wp2_with fail
  refine (late_await g2 3 w8.heap.size (H9.out.1.chg H10.out (fun _ _ x => x) (fun _ x => x.elim))).mono ?_
  rintro e w11 ⟨eb, rfl, hb11, s11⟩
  have H11 := Lib.hid (And.intro hb11 s11)
  clear hb11 s11
  go_wp2_with fail
  have sall : Same w w11 := (H9.out.2.2.2.trans H10.out).trans H11.out.2
  refine (class_any (l := []) (B := some (.late 3)) w11 ⟨eb, rfl, H11.out.1⟩ (HE.out.1.same sall (HN.out.symm ▸ HE.out.2)) (Nat.lt_of_lt_of_le (HN.out.symm ▸ HE.out.2) sall.size)).mono ?_
  rintro e w12 ⟨rfl, s12⟩
  have H12 := Lib.hid (And.intro sall s12)
  clear s12 sall
  go_wp2_with fail
  refine (dead_reason ((((H9.out.2.1.chg H10.out (fun _ _ x => x)).chg H11.out.2 (fun _ _ x => x)).chg H12.out.2 (fun _ _ x => x)))).mono ?_
  rintro e _ ⟨rfl, rfl⟩
  go_wp2_with fail
  go_ret
  exact ⟨rfl, H12.out.1.trans H12.out.2⟩
end Go.Proofs.YtgljjgmfhememaaGreatDoor
