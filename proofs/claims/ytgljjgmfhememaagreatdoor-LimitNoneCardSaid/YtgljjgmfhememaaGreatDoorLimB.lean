/- limit.Within of an open future. Conditions: none. -/
import Derived.Test.YtgljjgmfhememaaGreatDoorLim
namespace Go.Proofs.YtgljjgmfhememaaGreatDoor
open Go Go.RowKit Go.Sort
set_option maxRecDepth 100000
set_option maxHeartbeats 2000000
theorem fut_new_g (w : World) : Calls Tryz.prog 10 #[] w fun e w' => ∃ r : FR, e = .returned (.pointer (some ⟨r.b, 0, none⟩)) ∧ FutF w' r [] ∧ (∀ k, r.has k → w.heap.size ≤ k) ∧ Same w w' :=
  (fut_new w).mono fun _ _ ⟨b, s, lf, lb, hb, pb, he, hA, g1, g2, g3, g4, g5, g6, s1⟩ => ⟨⟨b, s, lf, lb, hb, pb⟩, he, FutF.empty hA, fun q hq => by unfold FR.has at hq; simp only at hq; omega, s1⟩
/-- The frame of Within while its region goes. -/
def wiFr (N rb tb : Nat) (d : Int) (v10 v11 v23 v24 v25 v26 v27 : Value) : Act := ⟨#[.pointer none, .pointer (some ⟨N + 2, 0, none⟩), .pointer (some ⟨rb, 0, none⟩), .int .i64 d, undef, .pointer (some ⟨tb, 0, none⟩), undef, undef, .pointer none, .int .i64 0, v10, v11, undef, undef, .pointer (some ⟨N + 2, 0, none⟩), .bool false, .bool false, .pointer (some ⟨rb, 0, none⟩), .int .i64 1, .bool false, .bool false, .int .i64 d, .bool false, v23, v24, v25, v26, v27, undef, undef, undef, undef, undef, undef, undef, undef, undef, undef, undef, undef, undef, undef, undef, undef, undef, undef, undef, undef, undef, undef, undef], []⟩
structure WiI (w W : World) (N : Nat) (d T : Int) (l0 l1 l2 l3 l4 l5 l6 : Bool) (v10 v11 v23 v24 v25 v26 v27 : Value) (g : FR) (ka kb : Nat) : Prop where
  same : Same w W
  f0 : l0 = true → v23 = .pointer (some ⟨g.b, 0, none⟩) ∧ FutF W g [] ∧ ∀ k, g.has k → w.heap.size ≤ k
  f1 : l1 = true → v24 = .pointer none
  f2 : l2 = true → v25 = .pointer (some ⟨N + 2, 0, none⟩)
  f3 : l3 = true → v26 = .int .i64 d
  f4 : l4 = true → v27 = .int .i64 T ∧ l1 = true ∧ l2 = true ∧ l3 = true
  f5 : l5 = true → v10 = .pointer (some ⟨ka, 0, none⟩) ∧ w.heap.size ≤ ka ∧ Blk W ka #[.pointer none] 24
  f6 : l6 = true → v11 = .pointer (some ⟨kb, 0, none⟩) ∧ w.heap.size ≤ kb ∧ Blk W kb #[.int .i64 0] 2
theorem WiI.mono {w W W' : World} {N : Nat} {d T : Int} {l0 l1 l2 l3 l4 l5 l6 : Bool} {v10 v11 v23 v24 v25 v26 v27 : Value} {g : FR} {ka kb : Nat} (h : WiI w W N d T l0 l1 l2 l3 l4 l5 l6 v10 v11 v23 v24 v25 v26 v27 g ka kb) (s : Same W W') : WiI w W' N d T l0 l1 l2 l3 l4 l5 l6 v10 v11 v23 v24 v25 v26 v27 g ka kb :=
  ⟨h.same.trans s, fun e => ⟨(h.f0 e).1, (h.f0 e).2.1.chg s (fun _ _ x => x), (h.f0 e).2.2⟩, h.f1, h.f2, h.f3, h.f4, fun e => ⟨(h.f5 e).1, (h.f5 e).2.1, s.blk (h.f5 e).2.2 (fun x => x)⟩, fun e => ⟨(h.f6 e).1, (h.f6 e).2.1, s.blk (h.f6 e).2.2 (fun x => x)⟩⟩
def WiInv (w : World) (N rb tb : Nat) (d T : Int) (listed : Array Bool) (a : Act) (W : World) : Prop :=
  ∃ l0 l1 l2 l3 l4 l5 l6 v10 v11 v23 v24 v25 v26 v27 g ka kb, listed = #[l0, l1, l2, l3, l4, l5, l6, false, false] ∧ a = wiFr N rb tb d v10 v11 v23 v24 v25 v26 v27 ∧ WiI w W N d T l0 l1 l2 l3 l4 l5 l6 v10 v11 v23 v24 v25 v26 v27 g ka kb
def wiDeps : List (List Nat) := [[], [], [], [], [1, 2, 3, 0], [], [], [5, 0, 4, 0, 5, 6], [6, 4, 7, 0, 1, 2, 3, 4, 5, 6, 7]]
variable {w : World} {N : Nat} {now : Int} {st due : Nat → Int} {fs : Nat → Value}
/-- What such a call leaves: g: the new future; its box, the due time's, the clock's, the timer's. -/
structure Bound (w' : World) (B : Nat) (N : Nat) (g : FR) (ka kb tb xb : Nat) (j : Nat) (y T : Int) : Prop where
  ga : Blk w' ka #[.pointer (some ⟨g.b, 0, none⟩)] 24
  at_ : Blk w' kb #[.int .i64 T] 2
  clk : Blk w' tb #[.pointer (some ⟨N + 2, 0, none⟩)] 50
  tim : Blk w' xb #[.int .i64 j, .int .i64 y] 151
  na : B ≤ ka
  nb : B ≤ kb
  nt : B ≤ tb
  nx : B ≤ xb
  ng : ∀ k, g.has k → B ≤ k
theorem Bound.chg {w' w'' : World} {S : Nat → Prop} {B N : Nat} {g : FR} {ka kb tb xb j : Nat} {y T : Int} (h : Bound w' B N g ka kb tb xb j y T) (hc : Chg S w' w'') (hn : ∀ k, B ≤ k → ¬ S k) : Bound w'' B N g ka kb tb xb j y T :=
  ⟨hc.blk h.ga (hn _ h.na), hc.blk h.at_ (hn _ h.nb), hc.blk h.clk (hn _ h.nt), hc.blk h.tim (hn _ h.nx), h.na, h.nb, h.nt, h.nx, h.ng⟩
def WithinDone (w : World) (N : Nat) (now : Int) (st due : Nat → Int) (fs : Nat → Value) (r : FR) (hs : List (Nat × Array Value)) (j : Nat) (T : Int) (e : Ending) (w' : World) : Prop :=
  ∃ (g : FR) (ka kb tb xb : Nat), e = .returned (.tuple #[.pointer (some ⟨g.b, 0, none⟩), .int .i64 0]) ∧ Bound w' w.heap.size N g ka kb tb xb j (st j + 2) T ∧ FutF w' g [] ∧
    FutF w' r (hs ++ [(73, #[.pointer (some ⟨ka, 0, none⟩), .pointer (some ⟨tb, 0, none⟩), .pointer (some ⟨xb, 0, none⟩)])]) ∧
    Clk w' N now 0 (upd st j (st j + 2)) (upd due j T) (upd fs j (.func (.func 72) #[] #[.pointer (some ⟨ka, 0, none⟩), .pointer (some ⟨kb, 0, none⟩)])) ∧ Chg (fun k => r.has k ∨ Turned N k) w w'
theorem within_open (r : FR) (j : Nat) (hj : j < 16) (hj0 : ∀ i, i ≤ j → 0 ≤ st i ∧ st i ≤ 1000000000) (hfree : st j % 4 = 0) (hlow : ∀ i, i < j → ¬ st i % 4 = 0) (hrN : ∀ k, r.has k → ¬ Turned N k) (h : Clk w N now 0 st due fs) (n0 : 0 ≤ now ∧ now ≤ 4611686018427387904) (hs : List (Nat × Array Value)) (hhs : hs.length ≤ 2) (hr : FutF w r hs) (d : Int) (d0 : 0 ≤ d) (d1 : d ≤ 9223372036854775807) (T : Int) (hT : T = now + min d (4611686018427387904 - now)) :
    Calls Tryz.prog 21 #[.pointer none, .pointer (some ⟨N + 2, 0, none⟩), .pointer (some ⟨r.b, 0, none⟩), .int .i64 d] w (WithinDone w N now st due fs r hs j T) := by
  have hA : Clk (w.alloc (.cells #[.pointer (some ⟨N + 2, 0, none⟩)] 50)) N now 0 st due fs := h.chg (S := fun _ => False) ((Chg.refl _ _).alloc _) (fun _ _ _ x => x)
  have hT5 : Blk (w.alloc (.cells #[.pointer (some ⟨N + 2, 0, none⟩)] 50)) w.heap.size #[.pointer (some ⟨N + 2, 0, none⟩)] 50 := Blk.new _ _ _
  have sA : Same w (w.alloc (.cells #[.pointer (some ⟨N + 2, 0, none⟩)] 50)) := (Chg.refl _ _).alloc _
  have hrA := hr.chg sA (fun _ _ x => x)
  have e0 : decide (d < 0) = false := decide_eq_false (by omega)
  have HT := Lib.hid hT
  have HR0 := Lib.hid hr
  have HC0 := Lib.hid (And.intro hj0 (And.intro hfree (And.intro hlow hrN)))
  have hN35 := h.lt
  have hT0 : 0 ≤ T ∧ T ≤ 4611686018427387904 := by omega
  clear hT h hr hj0 hfree hlow hrN
  go_enter Tryz.func21, Tryz.ntmps21
  go_wp2_with fail
  generalize w.alloc (.cells #[.pointer (some ⟨N + 2, 0, none⟩)] 50) = W at *
  generalize hwb : w.heap.size = tb at *
  have HA := Lib.hid (And.intro hA (And.intro hT5 (And.intro sA (And.intro hrA hwb))))
  clear hA hT5 sA hrA hwb
  refine (limit_none_no HA.out.1).mono ?_
  rintro e w1 ⟨rfl, s1⟩
  have H1 := Lib.hid s1
  have t5 := (s1.blk HA.out.2.1 (fun x => x)).cellAt 0 (v := .pointer (some ⟨N + 2, 0, none⟩)) rfl
  clear s1
  go_wp2_with fail
  refine (made_then_nil _ _ (HA.out.2.2.2.1.chg H1.out (fun _ _ x => x)).n.made).mono ?_
  rintro e _ ⟨rfl, rfl⟩
  go_wp2_with fail
  have hckW := (HA.out.1.chg H1.out (fun _ _ _ x => x))
  have HCW := Lib.hid hckW
  clear hckW
  refine wp_region_until wiDeps #[true, true, true, true, true, true, true, false, false] (WiInv w1 N r.b tb d T) (by kernel_rfl) (by kernel_rfl) (by kernel_rfl) ?_ ?_ ?_ ?_ ?_
  · exact ⟨false, false, false, false, false, false, false, undef, undef, undef, undef, undef, undef, undef, ⟨0, 0, 0, 0, 0, 0⟩, 0, 0, rfl, rfl, ⟨(Chg.refl _ _).drew, fun e => by simp at e, fun e => by simp at e, fun e => by simp at e, fun e => by simp at e, fun e => by simp at e, fun e => by simp at e, fun e => by simp at e⟩⟩
  · rintro listed a W ⟨l0, l1, l2, l3, l4, l5, l6, v10, v11, v23, v24, v25, v26, v27, g, ka, kb, rfl, rfl, h⟩
    rfl
  · rintro listed a W ⟨l0, l1, l2, l3, l4, l5, l6, v10, v11, v23, v24, v25, v26, v27, g, ka, kb, rfl, rfl, h⟩ hx
    have := hx 8 (by decide)
    simp at this
  · rintro listed a W i ⟨l0, l1, l2, l3, l4, l5, l6, v10, v11, v23, v24, v25, v26, v27, g, ka, kb, rfl, rfl, h⟩ hstop hi hl hd
    have hi : i < 9 := hi
    rcases i with _ | _ | _ | _ | _ | _ | _ | _ | _ | i
    all_goals simp [wiDeps] at hl hd
    · subst hl
      refine wpOp_shut (o := _) (by simp only [List.getElem?_toArray, List.getElem?_cons_zero]; rfl) (fun K' hK => ?_)
      unfold wiFr
      go_simp
      refine (fut_new_g _).mono ?_
      rintro e W1 ⟨g', rfl, hF, hnew, s1⟩
      have h' := h.mono s1
      have hsz := h.same.size
      go_wp2_with fail
      exact hK.out _ _ ⟨true, l1, l2, l3, l4, l5, l6, v10, v11, _, v24, v25, v26, v27, g', ka, kb, rfl, rfl, ⟨h'.same, fun _ => ⟨rfl, hF, fun k hk => Nat.le_trans hsz (hnew k hk)⟩, h'.f1, h'.f2, h'.f3, h'.f4, h'.f5, h'.f6⟩⟩
    · subst hl
      have n4 : l4 = false := by cases l4 with | false => rfl | true => have := h.f4 rfl; simp at this
      subst n4
      refine wpOp_shut (o := _) (by simp only [List.getElem?_toArray, List.getElem?_cons_zero, List.getElem?_cons_succ]; rfl) (fun K' hK => ?_)
      unfold wiFr
      go_simp
      exact hK.out _ _ ⟨l0, true, l2, l3, false, l5, l6, v10, v11, v23, _, v25, v26, v27, g, ka, kb, rfl, rfl, ⟨h.same, h.f0, fun _ => rfl, h.f2, h.f3, (fun e => by cases e), h.f5, h.f6⟩⟩
    · subst hl
      have n4 : l4 = false := by cases l4 with | false => rfl | true => have := h.f4 rfl; simp at this
      subst n4
      have c5 : W.cell? ⟨tb, 0, none⟩ = some (.pointer (some ⟨N + 2, 0, none⟩)) := ((H1.out.trans h.same).blk HA.out.2.1 (fun x => x)).cellAt 0 rfl
      refine wpOp_shut (o := _) (by simp only [List.getElem?_toArray, List.getElem?_cons_zero, List.getElem?_cons_succ]; rfl) (fun K' hK => ?_)
      unfold wiFr
      go_simp
      exact hK.out _ _ ⟨l0, l1, true, l3, false, l5, l6, v10, v11, v23, v24, _, v26, v27, g, ka, kb, rfl, rfl, ⟨h.same, h.f0, h.f1, fun _ => rfl, h.f3, (fun e => by cases e), h.f5, h.f6⟩⟩
    · subst hl
      have n4 : l4 = false := by cases l4 with | false => rfl | true => have := h.f4 rfl; simp at this
      subst n4
      refine wpOp_shut (o := _) (by simp only [List.getElem?_toArray, List.getElem?_cons_zero, List.getElem?_cons_succ]; rfl) (fun K' hK => ?_)
      unfold wiFr
      go_simp
      exact hK.out _ _ ⟨l0, l1, l2, true, false, l5, l6, v10, v11, v23, v24, v25, _, v27, g, ka, kb, rfl, rfl, ⟨h.same, h.f0, h.f1, h.f2, fun _ => rfl, (fun e => by cases e), h.f5, h.f6⟩⟩
    · obtain ⟨e1, e2, e3, e0'⟩ := hd
      subst hl e1 e2 e3 e0'
      obtain rfl := h.f1 rfl
      obtain rfl := h.f2 rfl
      obtain rfl := h.f3 rfl
      refine wpOp_shut (o := _) (by simp only [List.getElem?_toArray, List.getElem?_cons_zero, List.getElem?_cons_succ]; rfl) (fun K' hK => ?_)
      unfold wiFr
      go_simp
      refine (limit_due (HCW.out.chg h.same (fun _ _ _ x => x)) n0 d d0 d1 T HT.out).mono ?_
      rintro e _ ⟨rfl, rfl⟩
      go_wp2_with fail
      exact hK.out _ _ ⟨true, true, true, true, true, l5, l6, v10, v11, v23, _, _, _, _, g, ka, kb, rfl, rfl, ⟨h.same, h.f0, h.f1, h.f2, h.f3, fun _ => ⟨rfl, rfl, rfl, rfl⟩, h.f5, h.f6⟩⟩
    · subst hl
      refine wpOp_shut (o := _) (by simp only [List.getElem?_toArray, List.getElem?_cons_zero, List.getElem?_cons_succ]; rfl) (fun K' hK => ?_)
      unfold wiFr
      go_simp
      have h' := h.mono ((Chg.refl _ W).alloc (.cells #[.pointer none] 24))
      have hsz := h.same.size
      exact hK.out _ _ ⟨l0, l1, l2, l3, l4, true, l6, _, v11, v23, v24, v25, v26, v27, g, W.heap.size, kb, rfl, rfl, ⟨h'.same, h'.f0, h'.f1, h'.f2, h'.f3, h'.f4, fun _ => ⟨rfl, hsz, Blk.new _ _ _⟩, h'.f6⟩⟩
    · subst hl
      refine wpOp_shut (o := _) (by simp only [List.getElem?_toArray, List.getElem?_cons_zero, List.getElem?_cons_succ]; rfl) (fun K' hK => ?_)
      unfold wiFr
      go_simp
      have h' := h.mono ((Chg.refl _ W).alloc (.cells #[.int .i64 0] 2))
      have hsz := h.same.size
      exact hK.out _ _ ⟨l0, l1, l2, l3, l4, l5, true, v10, _, v23, v24, v25, v26, v27, g, ka, W.heap.size, rfl, rfl, ⟨h'.same, h'.f0, h'.f1, h'.f2, h'.f3, h'.f4, h'.f5, fun _ => ⟨rfl, hsz, Blk.new _ _ _⟩⟩⟩
    · exfalso
      apply hstop
      obtain ⟨e5, e0', e4, _, _, e6⟩ := hd
      obtain ⟨_, e1, e2, e3⟩ := h.f4 e4
      rw [e0', e1, e2, e3, e4, e5, e6]
  · rintro a W ⟨l0, l1, l2, l3, l4, l5, l6, v10, v11, v23, v24, v25, v26, v27, g, ka, kb, hls, rfl, h⟩ fuel hfuel
    simp only [Array.mk.injEq, List.cons.injEq] at hls
    obtain ⟨rfl, rfl, rfl, rfl, rfl, rfl, rfl, _⟩ := hls
    obtain ⟨rfl, hFg, hgn⟩ := h.f0 rfl
    obtain rfl := h.f1 rfl
    obtain rfl := h.f2 rfl
    obtain rfl := h.f3 rfl
    obtain ⟨rfl, _⟩ := h.f4 rfl
    obtain ⟨rfl, hka, hBa⟩ := h.f5 rfl
    obtain ⟨rfl, hkb, hBb⟩ := h.f6 rfl
    have d8 := hBa.cellAt 0 (v := .pointer none) rfl
    have z8 := hBa.free 0
    refine wpAny_next (i := 7) (n := 1) (o := _) (by kernel_rfl) (by simp only [List.getElem?_toArray, List.getElem?_cons_zero, List.getElem?_cons_succ]; rfl) (by kernel_rfl) hfuel (fun K' hK => ?_)
    unfold wiFr
    go_simp
    refine hK.out _ _ (fun fuel hfuel2 => ?_)
    clear hK K'
    have ca : Chg (· = ka) W (W.setCell ⟨ka, 0, none⟩ (.pointer (some ⟨g.b, 0, none⟩))) := set_chg W _ _
    have hF2 := hFg.chg ca (fun k hk e => hFg.ne_blk hBa (by decide) (by decide) (by decide) (by decide) (e ▸ hk))
    have hBb2 := ca.blk hBb (hBb.ne hBa (by decide))
    have hBa2 := hBa.set 0 (.pointer (some ⟨g.b, 0, none⟩))
    have mW : Same w1 (W.setCell ⟨ka, 0, none⟩ (.pointer (some ⟨g.b, 0, none⟩))) := h.same.setCell (.inr hka) _
    generalize W.setCell ⟨ka, 0, none⟩ (.pointer (some ⟨g.b, 0, none⟩)) = W2 at *
    clear hFg hBa hBb d8 z8 ca h
    have d9 := hBb2.cellAt 0 (v := .int .i64 0) rfl
    have z9 := hBb2.free 0
    refine wpAny_next (i := 8) (n := 0) (o := _) (by kernel_rfl) (by simp only [List.getElem?_toArray, List.getElem?_cons_zero, List.getElem?_cons_succ]; rfl) (by kernel_rfl) hfuel2 (fun K' hK => ?_)
    go_simp
    refine hK.out _ _ (fun fuel _ => wpAny_done (by kernel_rfl) ?_ fuel)
    have cb : Chg (· = kb) W2 (W2.setCell ⟨kb, 0, none⟩ (.int .i64 T)) := set_chg W2 _ _
    have hF3 := hF2.chg cb (fun k hk e => hF2.ne_blk hBb2 (by decide) (by decide) (by decide) (by decide) (e ▸ hk))
    have hBa3 := cb.blk hBa2 (hBa2.ne hBb2 (by decide))
    have hBb3 := hBb2.set 0 (.int .i64 T)
    have mW3 : Same w1 (W2.setCell ⟨kb, 0, none⟩ (.int .i64 T)) := mW.setCell (.inr hkb) _
    generalize W2.setCell ⟨kb, 0, none⟩ (.int .i64 T) = W3 at *
    clear hK K' hF2 hBb2 hBa2 mW d9 z9 cb
    have HB := Lib.hid (And.intro hF3 (And.intro hBa3 (And.intro hBb3 (And.intro mW3 (And.intro hgn (And.intro hka hkb))))))
    have c5 : W3.cell? ⟨tb, 0, none⟩ = some (.pointer (some ⟨N + 2, 0, none⟩)) := ((H1.out.trans mW3).blk HA.out.2.1 (fun x => x)).cellAt 0 rfl
    have c6 := hBb3.cellAt 0 (v := .int .i64 T) rfl
    clear hF3 hBa3 hBb3 mW3 hgn hka hkb t5
    go_wp2_with fail
    refine (clk_set (HCW.out.chg HB.out.2.2.2.1 (fun _ _ _ x => x)) j hj HC0.out.1 HC0.out.2.1 HC0.out.2.2.1 T hT0.1 hT0.2 72 _).mono ?_
    rintro e w4 ⟨rfl, hck4, hc4⟩
    have hsz : w.heap.size ≤ w1.heap.size ∧ w.heap.size = tb := ⟨(HA.out.2.2.1.trans H1.out).size, HA.out.2.2.2.2⟩
    have hT5b : Blk w4 tb #[.pointer (some ⟨N + 2, 0, none⟩)] 50 := hc4.blk ((H1.out.trans HB.out.2.2.2.1).blk HA.out.2.1 (fun x => x)) (fun e => by have := hsz.2; unfold Turned at e; omega)
    have hBa4 := hc4.blk HB.out.2.1 (fun e => by have := HB.out.2.2.2.2.2.1; have := hsz.1; unfold Turned at e; omega)
    have hBb4 := hc4.blk HB.out.2.2.1 (fun e => by have := HB.out.2.2.2.2.2.2; have := hsz.1; unfold Turned at e; omega)
    have hF4 := HB.out.1.chg hc4 (fun k hk e => by have := HB.out.2.2.2.2.1 k hk; have := hsz.1; unfold Turned at e; omega)
    have hR4 := (HR0.out.chg (HA.out.2.2.1.trans (H1.out.trans HB.out.2.2.2.1)) (fun _ _ x => x)).chg hc4 HC0.out.2.2.2
    have lt4 := hBa4.lt
    have lt5 := hT5b.lt
    have d6 := hBa4.cellAt 0 (v := .pointer (some ⟨g.b, 0, none⟩)) rfl
    have H4 := Lib.hid (And.intro hck4 (And.intro hc4 (And.intro hT5b (And.intro hBa4 (And.intro hBb4 (And.intro hF4 (And.intro hR4 hsz)))))))
    clear hck4 hc4 hsz hT5b hBa4 hBb4 hF4 hR4 c5 c6
    go_wp2_with fail
    have hX : Blk (w4.alloc (.cells #[.int .i64 j, .int .i64 (st j + 2)] 151)) w4.heap.size #[.int .i64 j, .int .i64 (st j + 2)] 151 := Blk.new _ _ _
    have sX : Same w4 (w4.alloc (.cells #[.int .i64 j, .int .i64 (st j + 2)] 151)) := (Chg.refl _ _).alloc _
    generalize w4.alloc (.cells #[.int .i64 j, .int .i64 (st j + 2)] 151) = w5 at *
    generalize hxb : w4.heap.size = xb at *
    have HX := Lib.hid (And.intro hX (And.intro sX hxb))
    clear hX sX hxb d6 lt4 lt5
    refine (then_f _ r hs hhs (H4.out.2.2.2.2.2.2.1.chg HX.out.2.1 (fun _ _ x => x)) _ _).mono ?_
    rintro e w6 ⟨rfl, hR6, hc6⟩
    obtain ⟨hck4, hc4, hT5b, hBa4, hBb4, hF4, hR4, hsz⟩ := H4.out
    have s45 := HX.out.2.1
    have rlt := HR0.out.lt
    have hm4 : w1.heap.size ≤ w4.heap.size := Nat.le_trans HB.out.2.2.2.1.size hc4.size
    have hfar : ∀ k, w.heap.size ≤ k → ¬ r.has k := fun k hk e => by have := rlt k e; omega
    have hbd : Bound w6 w.heap.size N g ka kb tb xb j (st j + 2) T :=
      ⟨hc6.blk (s45.blk hBa4 (fun x => x)) (hfar _ (by have := HB.out.2.2.2.2.2.1; omega)), hc6.blk (s45.blk hBb4 (fun x => x)) (hfar _ (by have := HB.out.2.2.2.2.2.2; omega)), hc6.blk (s45.blk hT5b (fun x => x)) (hfar _ (by omega)), hc6.blk HX.out.1 (hfar _ (by have := HX.out.2.2; omega)),
       by have := HB.out.2.2.2.2.2.1; omega, by have := HB.out.2.2.2.2.2.2; omega, by omega, by have := HX.out.2.2; omega, fun k hk => by have := HB.out.2.2.2.2.1 k hk; omega⟩
    have d6 := hbd.ga.cellAt 0 (v := .pointer (some ⟨g.b, 0, none⟩)) rfl
    have hF6 := (hF4.chg s45 (fun _ _ x => x)).chg hc6 (fun k hk => hfar k (by have := HB.out.2.2.2.2.1 k hk; omega))
    have hck6 := (hck4.chg s45 (fun _ _ _ x => x)).chg hc6 (fun k h1 h2 e => HC0.out.2.2.2 k e ⟨h1, h2⟩)
    have hall : Chg (fun k => r.has k ∨ Turned N k) w w6 := (((HA.out.2.2.1.trans (H1.out.trans HB.out.2.2.2.1)).mono (S' := fun k => r.has k ∨ Turned N k) (fun _ _ x => x.elim)).trans (hc4.mono (fun _ _ e => .inr e))).trans ((s45.mono (S' := fun k => r.has k ∨ Turned N k) (fun _ _ x => x.elim)).trans (hc6.mono (fun _ _ e => .inl e)))
    have HE := Lib.hid (And.intro hbd (And.intro hF6 (And.intro hR6 (And.intro hck6 hall))))
    clear hck4 hc4 hT5b hBa4 hBb4 hF4 hR4 hsz s45 rlt hm4 hfar hbd hF6 hck6 hall hR6 hc6
    go_wp2_with fail
    go_ret2
    exact ⟨g, ka, kb, tb, xb, rfl, HE.out.1, HE.out.2.1, HE.out.2.2.1, HE.out.2.2.2.1, HE.out.2.2.2.2⟩
end Go.Proofs.YtgljjgmfhememaaGreatDoor
