/- treadlelaw16.works answers true, and all memory is as it was. Conditions: none. -/
import Derived.Test.YtgljjgmfhememaaGreatDoorJoinP
namespace Go.Proofs.YtgljjgmfhememaaGreatDoor
open Go Go.RowKit Go.Sort
set_option maxRecDepth 100000
set_option maxHeartbeats 2000000
def pairOf (x y : List (Nat × Array Value)) (j : Nat) : List (Nat × Array Value) := if j = 0 then x else if j = 1 then y else []
theorem pairOf_len (x y : List (Nat × Array Value)) (h1 : x.length ≤ 2) (h2 : y.length ≤ 2) (j : Nat) : (pairOf x y j).length ≤ 2 := by
  unfold pairOf
  split
  · exact h1
  · split
    · exact h2
    · simp
/-- What the two futures bear in the end: enough for the two Completes. -/
structure Pair (p : Par) (W : World) (ra rb : FR) : Prop where
  up : p.Up
  la : ∀ k, ra.has k → k < p.n1
  lb : ∀ k, rb.has k → k < p.n1
  ap : ∀ k, ra.has k → ¬ rb.has k
  hi : p.n4 ≤ W.heap.size
  fa : ∃ x y z u v, FutF W ra [(57, #[.pointer (some ⟨p.kx, 0, none⟩), .pointer (some ⟨p.i0, 0, none⟩)]), (60, #[.pointer (some ⟨p.k6, 0, none⟩), x, y, z]), (63, #[.pointer (some ⟨p.kgd, 0, none⟩), .pointer (some ⟨p.kw, 0, none⟩), .pointer (some ⟨p.kg, 0, none⟩), u, v])]
  fb : ∃ x y z u v, FutF W rb [(57, #[.pointer (some ⟨p.kx, 0, none⟩), .pointer (some ⟨p.i1, 0, none⟩)]), (60, #[.pointer (some ⟨p.k6, 0, none⟩), x, y, z]), (63, #[.pointer (some ⟨p.kgd, 0, none⟩), .pointer (some ⟨p.kw, 0, none⟩), .pointer (some ⟨p.kg, 0, none⟩), u, v])]
theorem has_b (r : FR) : r.has r.b ∧ r.has r.s ∧ r.has r.hb := ⟨.inl rfl, .inr (.inl rfl), .inr (.inr (.inr (.inr (.inl rfl))))⟩
theorem complete_b (p : Par) (W : World) (ra rb : FR) (h : Pair p W ra rb) (hs : JB p 0 W) :
    Calls Tryz.prog 28 #[.pointer (some ⟨rb.b, 0, none⟩), .pointer none, .int .i64 2, .nilIface] W fun e w' => e = .returned (.bool true) ∧ JA p 0 w' ∧ Chg (fun k => rb.has k ∨ p.S k) W w' := by
  obtain ⟨x, y, z, a, b, hf⟩ := h.fb
  have u := h.up
  have hbb := has_b rb
  exact (fut_complete_three rb 2 _ _ _ _ _ _ p.S (JB p) hf (fun k hk e => by have := h.lb k hk; have := e.1; omega) (fun k e => by have := h.hi; have := e.2; omega)
    (fun w1 hc => St.chg (o1 := none) (o2 := none) (o3 := none) hs hc (fun k hk e => by
      have b1 := h.lb _ hbb.1
      have b2 := h.lb _ hbb.2.1
      have b3 := h.lb _ hbb.2.2
      omega) u.a u.b) (JB.same u) (b_all u) (b_any u x y z) (b_quo u a b)).mono fun e w' ⟨he, _, hj, hc⟩ => ⟨he, hj, hc.mono (fun k _ e => by
        rcases e with rfl | rfl | rfl | e
        · exact .inl hbb.1
        · exact .inl hbb.2.1
        · exact .inl hbb.2.2
        · exact .inr e)⟩
theorem complete_a (p : Par) (W : World) (ra rb : FR) (h : Pair p W ra rb) (W' : World) (hc0 : Chg (fun k => rb.has k ∨ p.S k) W W') (hs : JA p 0 W') :
    Calls Tryz.prog 28 #[.pointer (some ⟨ra.b, 0, none⟩), .pointer none, .int .i64 1, .nilIface] W' fun e w' => e = .returned (.bool true) ∧ Fin p w' 0 1 2 2 2 2 ∧ Chg (fun k => ra.has k ∨ p.S k) W' w' := by
  obtain ⟨x, y, z, a, b, hf0⟩ := h.fa
  have u := h.up
  have hbb := has_b ra
  have hf := hf0.chg hc0 (fun k hk e => by
    rcases e with e | e
    · exact h.ap k hk e
    · have := h.la k hk; have := e.1; omega)
  have hsz := hc0.size
  exact (fut_complete_three ra 1 _ _ _ _ _ _ p.S (JA p) hf (fun k hk e => by have := h.la k hk; have := e.1; omega) (fun k e => by have := h.hi; have := e.2; omega)
    (fun w1 hc => St.chg (o1 := none) (o2 := some 2) (o3 := none) hs hc (fun k hk e => by
      have b1 := h.la _ hbb.1
      have b2 := h.la _ hbb.2.1
      have b3 := h.la _ hbb.2.2
      omega) u.a u.b) (JA.same u) (a_all u) (a_any u x y z) (a_quo u a b)).mono fun e w' ⟨he, _, hj, hc⟩ => ⟨he, hj, hc.mono (fun k _ e => by
        rcases e with rfl | rfl | rfl | e
        · exact .inl hbb.1
        · exact .inl hbb.2.1
        · exact .inl hbb.2.2
        · exact .inr e)⟩
theorem fut_new_f (w : World) : Calls Tryz.prog 10 #[] w fun e w' => ∃ r : FR, e = .returned (.pointer (some ⟨r.b, 0, none⟩)) ∧ FutF w' r [] ∧ (∀ k, r.has k → w.heap.size ≤ k) ∧ Same w w' :=
  (fut_new w).mono fun _ _ ⟨b, s, lf, lb, hb, pb, he, hA, g1, g2, g3, g4, g5, g6, s1⟩ => ⟨⟨b, s, lf, lb, hb, pb⟩, he, FutF.empty hA, fun q hq => by unfold FR.has at hq; simp only at hq; omega, s1⟩
theorem hlb_of {q n c0 : Nat} {rs : List FR} {W : World} (h1 : ¬ Any rs q) (h2 : q < W.heap.size) : ∀ a m c, Value.slice (some ⟨q, 0, none⟩) n c0 = .slice (some a) m c → rs ≠ [] → ¬ Any rs a.block ∧ a.block < W.heap.size := by
  intro a m c e _
  cases e
  exact ⟨h1, h2⟩
theorem any_lt {rs : List FR} {n : Nat} (h : ∀ r ∈ rs, ∀ k, r.has k → k < n) : ∀ q, Any rs q → q < n := fun q ⟨r, hr, hq⟩ => h r hr q hq
theorem two_of {P : FR → Nat → Prop} {ra rb : FR} (h0 : P ra 0) (h1 : P rb 1) : ∀ j (hj : j < [ra, rb].length), P ([ra, rb][j]) j := by
  intro j hj
  simp only [List.length_cons, List.length_nil] at hj
  obtain rfl | rfl : j = 0 ∨ j = 1 := by omega
  · exact h0
  · exact h1
theorem ends2 : madeCells (Value.cells endz) (2 * 2) = #[.int .i64 0, .nilIface, .int .i64 0, .nilIface] := by kernel_rfl
theorem all2_of {W3 w3 : World} {ra rb g1 : FR} {kl ke kj kx : Nat} (hJ : JointAt W3 w3 2 kl ke kj kx g1) (hF : FutF w3 g1 [])
    (hM : ∀ j (hj : j < [ra, rb].length), More [] (ClAll W3.heap.size kx) w3 [ra, rb][j] j) :
    ∃ i0 i1, All2 w3 W3.heap.size w3.heap.size g1 kl ke kj kx i0 i1 2 0 0 ∧ FutF w3 ra [(57, #[.pointer (some ⟨kx, 0, none⟩), .pointer (some ⟨i0, 0, none⟩)])] ∧ FutF w3 rb [(57, #[.pointer (some ⟨kx, 0, none⟩), .pointer (some ⟨i1, 0, none⟩)])] := by
  obtain ⟨G0, cg0, hf0, rfl, i0, rfl, hb0, hi0⟩ := hM 0 (by simp)
  obtain ⟨G1, cg1, hf1, rfl, i1, rfl, hb1, hi1⟩ := hM 1 (by simp)
  refine ⟨i0, i1, ⟨⟨hJ.joint, hJ.left, by have := hJ.ends; rw [ends2] at this; exact this, hJ.box, hb0, hb1⟩, ⟨hJ.nl, Blk.lt hJ.left⟩, ⟨hJ.ne, hJ.ends.lt⟩, ⟨hJ.nj, hJ.joint.lt⟩, ⟨hJ.nx, hJ.box.lt⟩, ⟨hi0, hb0.lt⟩, ⟨hi1, hb1.lt⟩, fun k hk => ⟨hJ.ng k hk, hF.lt k hk⟩, hJ.apart, hF.ne_blk hJ.ends (by decide) (by decide) (by decide) (by decide)⟩, hf0, hf1⟩
theorem works16 (w : World) : Calls Tryz.prog 17 #[] w fun e w' => e = .returned (.bool true) ∧ Same w w' := by
  have hnn : ∀ w, (binOp .eql 29 .nilIface .nilIface).run Tryz.prog w = .ok (.bool true) w := fun w => by kernel_rfl
  go_enter Tryz.func17, Tryz.ntmps17
  go_wp2_with fail
  refine (fut_new_f w).mono ?_
  rintro e w1 ⟨ra, rfl, hA, hra, s1⟩
  have HA := Lib.hid (And.intro hA (And.intro s1 hra))
  clear hA s1 hra
  go_wp2_with fail
  refine (fut_new_f w1).mono ?_
  rintro e w2 ⟨rb, rfl, hB, hrb, s2⟩
  have HB := Lib.hid (And.intro hB (And.intro s2 hrb))
  clear hB s2 hrb
  go_wp2_with fail
  -- All
  obtain ⟨hA, s1, hra⟩ := HA.out
  obtain ⟨hB, s2, hrb⟩ := HB.out
  have lb2 : ∀ k, rb.has k → k < w2.heap.size := hB.lt
  have la1 : ∀ k, ra.has k → k < w1.heap.size := hA.lt
  have la2 : ∀ k, ra.has k → k < w2.heap.size := fun k hk => Nat.lt_of_lt_of_le (la1 k hk) s2.size
  have hAny2 : ∀ q, Any [ra, rb] q → q < w2.heap.size := any_lt (fun r hr k hk => by
    rcases List.mem_cons.1 hr with rfl | hr
    · exact la2 k hk
    · obtain rfl := List.mem_singleton.1 hr; exact lb2 k hk)
  have hAnyw : ∀ q, Any [ra, rb] q → w.heap.size ≤ q := fun q ⟨r, hr, hq⟩ => by
    rcases List.mem_cons.1 hr with rfl | hr
    · exact hra q hq
    · obtain rfl := List.mem_singleton.1 hr; exact Nat.le_trans s1.size (hrb q hq)
  have hap : Apart [ra, rb] := apart_two la1 hrb
  have hap1 : ∀ k, ra.has k → ¬ rb.has k := fun k hk hk' => by have := la1 k hk; have := hrb k hk'; omega
  have sA : Same w2 (w2.alloc (.cells #[.pointer (some ⟨ra.b, 0, none⟩), .pointer (some ⟨rb.b, 0, none⟩)] 24)) := (Chg.refl _ _).alloc _
  have bA : Blk (w2.alloc (.cells #[.pointer (some ⟨ra.b, 0, none⟩), .pointer (some ⟨rb.b, 0, none⟩)] 24)) w2.heap.size #[.pointer (some ⟨ra.b, 0, none⟩), .pointer (some ⟨rb.b, 0, none⟩)] 24 := Blk.new _ _ _
  have zA : (w2.alloc (.cells #[.pointer (some ⟨ra.b, 0, none⟩), .pointer (some ⟨rb.b, 0, none⟩)] 24)).heap.size = w2.heap.size + 1 := by simp
  have m2 : Same w w2 := s1.trans s2
  generalize w2.alloc (.cells #[.pointer (some ⟨ra.b, 0, none⟩), .pointer (some ⟨rb.b, 0, none⟩)] 24) = W3 at *
  have hcall := all_open W3 (.slice (some ⟨w2.heap.size, 0, none⟩) 2 2) [ra, rb] (fun _ => []) (fun _ => by simp) (ptrs_two bA) hap
    (two_of (P := fun r j => FutF W3 r []) ((hA.chg s2 (fun _ _ x => x)).chg sA (fun _ _ x => x)) (hB.chg sA (fun _ _ x => x))) (hlb_of (fun h => by have := hAny2 _ h; omega) (by omega))
  have HC := Lib.hid hcall
  have Hap := Lib.hid hap
  have Hap1 := Lib.hid hap1
  have HW := Lib.hid (And.intro la2 (And.intro lb2 (And.intro hAny2 (And.intro hAnyw (And.intro zA (m2.trans sA))))))
  clear hcall hap hap1 la1 la2 lb2 hAny2 hAnyw zA m2 sA bA hA hB s1 s2 hra hrb HA HB
  refine HC.out.mono ?_
  rintro e w3 ⟨hpost, _⟩
  obtain ⟨g1, kl, ke, kj, kx, rfl, hJ, hF1, hM, hC3⟩ := hpost (by simp)
  have HP3 := Lib.hid (And.intro hJ (And.intro hF1 (And.intro hM hC3)))
  clear hpost hJ hF1 hM hC3 HC
  go_wp2_with fail
  -- Any
  obtain ⟨hJ, hF1, hM, hC3⟩ := HP3.out
  obtain ⟨i0, i1, hAll, hfa, hfb⟩ := all2_of hJ hF1 hM
  obtain ⟨la2, lb2, hAny2, hAnyw, zA, m3⟩ := HW.out
  have sB : Same w3 (w3.alloc (.cells #[.pointer (some ⟨ra.b, 0, none⟩), .pointer (some ⟨rb.b, 0, none⟩)] 24)) := (Chg.refl _ _).alloc _
  have bB : Blk (w3.alloc (.cells #[.pointer (some ⟨ra.b, 0, none⟩), .pointer (some ⟨rb.b, 0, none⟩)] 24)) w3.heap.size #[.pointer (some ⟨ra.b, 0, none⟩), .pointer (some ⟨rb.b, 0, none⟩)] 24 := Blk.new _ _ _
  have zB : (w3.alloc (.cells #[.pointer (some ⟨ra.b, 0, none⟩), .pointer (some ⟨rb.b, 0, none⟩)] 24)).heap.size = w3.heap.size + 1 := by simp
  have z3 := hC3.size
  generalize w3.alloc (.cells #[.pointer (some ⟨ra.b, 0, none⟩), .pointer (some ⟨rb.b, 0, none⟩)] 24) = W4 at *
  have hAll4 := hAll.chg sB (fun _ _ _ x => x)
  have hF14 := hF1.chg sB (fun _ _ x => x)
  have hcall := any_open W4 (.slice (some ⟨w3.heap.size, 0, none⟩) 2 2) [ra, rb] (pairOf [(57, #[.pointer (some ⟨kx, 0, none⟩), .pointer (some ⟨i0, 0, none⟩)])] [(57, #[.pointer (some ⟨kx, 0, none⟩), .pointer (some ⟨i1, 0, none⟩)])]) (pairOf_len _ _ (by simp) (by simp)) (ptrs_two bB) Hap.out
    (two_of (P := fun r j => FutF W4 r (pairOf _ _ j)) (hfa.chg sB (fun _ _ x => x)) (hfb.chg sB (fun _ _ x => x))) (hlb_of (fun h => by have := hAny2 _ h; omega) (by omega)) (by simp)
  have HC := Lib.hid hcall
  have HS4 := Lib.hid (And.intro hAll4 (And.intro hF14 (And.intro (hC3.trans (sB.mono (fun _ _ x => x.elim))) (And.intro zB z3))))
  clear hcall hJ hF1 hM hC3 hAll hfa hfb la2 lb2 hAny2 hAnyw zA m3 sB bB zB z3 hAll4 hF14 HP3
  refine HC.out.mono ?_
  rintro e w4 ⟨g2, k6, rfl, hF2, hB6, hg2, hk6, hM4, hC4⟩
  have HP4 := Lib.hid (And.intro hF2 (And.intro hB6 (And.intro hg2 (And.intro hk6 (And.intro hM4 hC4)))))
  clear hF2 hB6 hg2 hk6 hM4 hC4 HC
  go_wp2_with fail
  -- Quorum
  obtain ⟨hF2, hB6, hg2, hk6, hM4, hC4⟩ := HP4.out
  obtain ⟨hAll4, hF14, hC34, zB, z3⟩ := HS4.out
  obtain ⟨la2, lb2, hAny2, hAnyw, zA, m3⟩ := HW.out
  obtain ⟨Ga, ca, hfa, rfl, xa, ya, za, rfl⟩ := hM4 0 (by simp)
  obtain ⟨Gb, cb, hfb, rfl, xb, yb, zb, rfl⟩ := hM4 1 (by simp)
  change FutF w4 ra [(57, #[.pointer (some ⟨kx, 0, none⟩), .pointer (some ⟨i0, 0, none⟩)]), (60, #[.pointer (some ⟨k6, 0, none⟩), xa, ya, za])] at hfa
  change FutF w4 rb [(57, #[.pointer (some ⟨kx, 0, none⟩), .pointer (some ⟨i1, 0, none⟩)]), (60, #[.pointer (some ⟨k6, 0, none⟩), xb, yb, zb])] at hfb
  have hnot : ∀ k, W3.heap.size ≤ k → ¬ Any [ra, rb] k := fun k hk h => by have := hAny2 _ h; omega
  have hAll5 := hAll4.chg hC4 (fun k hk _ => hnot k hk)
  have hF15 := hF14.chg hC4 (fun k hk => hnot k (hAll4.bg k hk).1)
  have hAny5 : Any2 w4 w3.heap.size w4.heap.size g2 k6 := ⟨hB6, ⟨by omega, hB6.lt⟩, fun k hk => ⟨by have := hg2 k hk; omega, hF2.lt k hk⟩, hF2.ne_blk hB6 (by decide) (by decide) (by decide) (by decide)⟩
  have sD : Same w4 (w4.alloc (.cells #[.pointer (some ⟨ra.b, 0, none⟩), .pointer (some ⟨rb.b, 0, none⟩)] 24)) := (Chg.refl _ _).alloc _
  have bD : Blk (w4.alloc (.cells #[.pointer (some ⟨ra.b, 0, none⟩), .pointer (some ⟨rb.b, 0, none⟩)] 24)) w4.heap.size #[.pointer (some ⟨ra.b, 0, none⟩), .pointer (some ⟨rb.b, 0, none⟩)] 24 := Blk.new _ _ _
  have zD : (w4.alloc (.cells #[.pointer (some ⟨ra.b, 0, none⟩), .pointer (some ⟨rb.b, 0, none⟩)] 24)).heap.size = w4.heap.size + 1 := by simp
  have z4 := hC4.size
  generalize w4.alloc (.cells #[.pointer (some ⟨ra.b, 0, none⟩), .pointer (some ⟨rb.b, 0, none⟩)] 24) = W5 at *
  have hcall := quorum_f W5 2 (.slice (some ⟨w4.heap.size, 0, none⟩) 2 2) [ra, rb] (pairOf [(57, #[.pointer (some ⟨kx, 0, none⟩), .pointer (some ⟨i0, 0, none⟩)]), (60, #[.pointer (some ⟨k6, 0, none⟩), xa, ya, za])] [(57, #[.pointer (some ⟨kx, 0, none⟩), .pointer (some ⟨i1, 0, none⟩)]), (60, #[.pointer (some ⟨k6, 0, none⟩), xb, yb, zb])]) (pairOf_len _ _ (by simp) (by simp)) (ptrs_two bD) Hap.out
    (two_of (P := fun r j => FutF W5 r (pairOf _ _ j)) (hfa.chg sD (fun _ _ x => x)) (hfb.chg sD (fun _ _ x => x))) (hlb_of (fun h => by have := hAny2 _ h; omega) (by omega)) (by omega) (by simp)
  have HC := Lib.hid hcall
  have HS5 := Lib.hid (And.intro (hAll5.chg sD (fun _ _ _ x => x)) (And.intro (hF15.chg sD (fun _ _ x => x)) (And.intro (hAny5.chg sD (fun x => x)) (And.intro (hF2.chg sD (fun _ _ x => x)) (And.intro ((hC34.trans hC4).trans (sD.mono (fun _ _ x => x.elim))) (And.intro zB (And.intro z3 (And.intro zD z4))))))))
  clear hcall hF2 hB6 hg2 hk6 hM4 hC4 hAll4 hF14 hC34 zB z3 la2 lb2 hAny2 hAnyw zA m3 hfa hfb hnot hAll5 hF15 hAny5 sD bD zD z4 HP4 HS4
  refine HC.out.mono ?_
  rintro e w5 ⟨g3, gd, kg, kgd, kw, rfl, hQ, hF3, hg3, hgd, hM5, hC5⟩
  have HP5 := Lib.hid (And.intro hQ (And.intro hF3 (And.intro hg3 (And.intro hgd (And.intro hM5 hC5)))))
  clear hQ hF3 hg3 hgd hM5 hC5 HC
  go_wp2_with fail
  -- the two Completes
  obtain ⟨hQ, hF3, hg3, hgd, hM5, hC5⟩ := HP5.out
  obtain ⟨hAll5, hF15, hAny5, hF25, hC35, zB, z3, zD, z4⟩ := HS5.out
  obtain ⟨la2, lb2, hAny2, hAnyw, zA, m3⟩ := HW.out
  obtain ⟨Ga, ca, hfa, rfl, ua, va, rfl⟩ := hM5 0 (by simp)
  obtain ⟨Gb, cb, hfb, rfl, ub, vb, rfl⟩ := hM5 1 (by simp)
  have hnot : ∀ k, W3.heap.size ≤ k → ¬ Any [ra, rb] k := fun k hk h => by have := hAny2 _ h; omega
  have z5 := hC5.size
  have m5 : Chg (Any [ra, rb]) W3 w5 := hC35.trans hC5
  obtain ⟨p, rfl, rfl, rfl, hn1, hst, hpair⟩ : ∃ p : Par, p.kj = kj ∧ p.g2 = g2 ∧ p.g3 = g3 ∧ p.n1 = W3.heap.size ∧ St p w5 2 0 0 0 none none none ∧ Pair p w5 ra rb := by
    refine ⟨⟨W3.heap.size, w3.heap.size, w4.heap.size, w5.heap.size, g1, kl, ke, kj, kx, i0, i1, g2, k6, g3, gd, kg, kgd, kw⟩, rfl, rfl, rfl, rfl, ?_, ?_⟩
    · exact ⟨hAll5.chg hC5 (fun k hk _ => hnot k hk), hAny5.chg hC5 (hnot _ (by have := hAny5.b6; omega)),
        ⟨⟨hQ.good, hQ.box, hQ.gbox, hQ.want⟩, ⟨by have := hQ.n1; show w4.heap.size ≤ gd; omega, Blk.lt hQ.good⟩, ⟨by have := hQ.n2; show w4.heap.size ≤ kg; omega, hQ.box.lt⟩, ⟨by have := hQ.n3; show w4.heap.size ≤ kgd; omega, hQ.gbox.lt⟩, ⟨by have := hQ.n4; show w4.heap.size ≤ kw; omega, hQ.want.lt⟩, fun k hk => ⟨by have := hg3 k hk; show w4.heap.size ≤ k; omega, hF3.lt k hk⟩, hgd⟩,
        hF15.chg hC5 (fun k hk => hnot k (hAll5.bg k hk).1), hF25.chg hC5 (fun k hk => hnot k (by have := (hAny5.bg k hk).1; omega)), hF3⟩
    · exact ⟨⟨z3, by show w3.heap.size ≤ w4.heap.size; omega, by show w4.heap.size ≤ w5.heap.size; omega⟩, fun k hk => by have := la2 k hk; show k < W3.heap.size; omega, fun k hk => by have := lb2 k hk; show k < W3.heap.size; omega, Hap1.out, Nat.le_refl _, ⟨_, _, _, _, _, hfa⟩, ⟨_, _, _, _, _, hfb⟩⟩
  have m35 : Same w w5 := m3.trans' m5 (fun i hi e => by have := hAnyw _ e; omega)
  have hlow : w.heap.size ≤ p.n1 := by rw [hn1]; exact m3.size
  have hrb : ∀ k, rb.has k → w.heap.size ≤ k := fun k hk => hAnyw k ⟨rb, by simp, hk⟩
  have hra : ∀ k, ra.has k → w.heap.size ≤ k := fun k hk => hAnyw k ⟨ra, by simp, hk⟩
  have HE := Lib.hid (And.intro hst (And.intro hpair (And.intro m35 (And.intro hlow (And.intro hra hrb)))))
  clear hQ hF3 hg3 hgd hM5 hC5 hAll5 hF15 hAny5 hF25 hC35 zB z3 zD z4 la2 lb2 hAny2 hAnyw zA m3 hfa hfb hnot z5 m5 hst hpair m35 hlow hn1 hra hrb HW Hap Hap1 HP5 HS5
  refine (complete_b p w5 ra rb HE.out.2.1 HE.out.1).mono ?_
  rintro e w6 ⟨rfl, hJA, hC6⟩
  have HB6 := Lib.hid (And.intro hJA hC6)
  clear hJA hC6
  go_wp2_with fail
  refine (complete_a p w5 ra rb HE.out.2.1 w6 HB6.out.2 HB6.out.1).mono ?_
  rintro e w7 ⟨rfl, hfin, hC7⟩
  have HB7 := Lib.hid (And.intro hfin hC7)
  clear hfin hC7
  go_wp2_with fail
  refine (values_two _ _ _ _ _ _ _ _ _ _ _ _ HB7.out.1.j2 HB7.out.1.f1).mono ?_
  rintro e w8 ⟨lv, rfl, hlv, s8⟩
  have HB8 := Lib.hid (And.intro hlv s8)
  clear hlv s8
  go_wp2_with fail
  refine (await_done _ _ _ (HB7.out.1.f2.chg HB8.out.2 (fun _ _ x => x))).mono ?_
  rintro e w9 ⟨rfl, s9⟩
  have HB9 := Lib.hid s9
  clear s9
  go_wp2_with fail
  refine (await_done _ _ _ ((HB7.out.1.f3.chg HB8.out.2 (fun _ _ x => x)).chg HB9.out (fun _ _ x => x))).mono ?_
  rintro e w10 ⟨rfl, s10⟩
  have hl10 := s10.blk (HB9.out.blk HB8.out.1 (fun x => x)) (fun x => x)
  have c0 := hl10.cellAt 0 (v := .int .i64 1) rfl
  have c1 := hl10.cellAt 1 (v := .int .i64 2) rfl
  have HB10 := Lib.hid s10
  clear hl10 s10
  go_wp2_with fail
  go_ret
  refine ⟨rfl, ?_⟩
  obtain ⟨_, _, m35, hlow, hra, hrb⟩ := HE.out
  have m6 : Same w w6 := m35.trans' HB6.out.2 (fun i hi e => by
    rcases e with e | e
    · have := hrb _ e; omega
    · have := e.1; omega)
  have m7 : Same w w7 := m6.trans' HB7.out.2 (fun i hi e => by
    rcases e with e | e
    · have := hra _ e; omega
    · have := e.1; omega)
  exact ((m7.trans HB8.out.2).trans HB9.out).trans HB10.out
end Go.Proofs.YtgljjgmfhememaaGreatDoor
