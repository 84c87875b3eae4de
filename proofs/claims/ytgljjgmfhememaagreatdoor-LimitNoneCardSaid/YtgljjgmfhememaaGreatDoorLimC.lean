/- limit.Deadline of a living token. Conditions: none. -/
import Derived.Test.YtgljjgmfhememaaGreatDoorLimB
namespace Go.Proofs.YtgljjgmfhememaaGreatDoor
open Go Go.RowKit Go.Sort
set_option maxRecDepth 100000
set_option maxHeartbeats 2000000
/-- The frame of Deadline while its region goes. -/
def deFr (N rb tb cb ch : Nat) (d : Int) (v12 v31 v32 v33 v34 v35 v36 v37 v38 v39 v40 v41 : Value) : Act := ⟨#[.pointer none, .pointer (some ⟨N + 2, 0, none⟩), .pointer (some ⟨rb, 0, none⟩), .int .i64 d, undef, .pointer (some ⟨tb, 0, none⟩), undef, undef, .pointer none, .int .i64 0, .pointer (some ⟨cb, 0, none⟩), .int .i64 0, v12, .pointer (some ⟨N + 2, 0, none⟩), .bool false, .bool false, .pointer (some ⟨rb, 0, none⟩), .int .i64 1, .bool false, .bool false, .int .i64 d, .bool false, .tuple #[.pointer (some ⟨ch, 0, none⟩), .int .i64 0], .pointer (some ⟨rb, 0, none⟩), .pointer none, .tuple #[.pointer (some ⟨ch, 0, none⟩), .int .i64 0], .pointer (some ⟨ch, 0, none⟩), .int .i64 0, .int .i64 0, .bool false, undef, v31, v32, v33, v34, v35, v36, v37, v38, v39, v40, v41, undef, undef, undef, undef, undef, undef, undef, undef], []⟩
def deF (cb : Nat) : Value := .func (.func 76) #[] #[.pointer (some ⟨cb, 0, none⟩)]
structure DeI (w W : World) (N cb : Nat) (now d T : Int) (st due : Nat → Int) (fs : Nat → Value) (j : Nat) (l0 l1 l2 l3 l4 l5 l6 l7 l8 l9 l10 l11 l12 : Bool) (v12 v31 v32 v33 v34 v35 v36 v37 v38 v39 v40 v41 : Value) (k12 : Nat) : Prop where
  same : Chg (Turned N) w W
  clk : Clk W N now 0 (if l7 then upd st j (st j + 2) else st) (if l7 then upd due j T else due) (if l7 then upd fs j (deF cb) else fs)
  f0 : l0 = true → v32 = .pointer (some ⟨N + 2, 0, none⟩)
  f1 : l1 = true → v33 = .pointer none
  f2 : l2 = true → v34 = .pointer none
  f3 : l3 = true → v35 = .pointer (some ⟨N + 2, 0, none⟩)
  f4 : l4 = true → v36 = .int .i64 d
  f5 : l5 = true → v37 = .int .i64 T ∧ l2 = true ∧ l3 = true ∧ l4 = true
  f6 : l6 = true → v38 = deF cb
  f7 : l7 = true → v39 = .tuple #[.agg #[.int .i64 j, .int .i64 (st j + 2)], .int .i64 0] ∧ l0 = true ∧ l1 = true ∧ l5 = true ∧ l6 = true
  f8 : l8 = true → v31 = .tuple #[.agg #[.int .i64 j, .int .i64 (st j + 2)], .int .i64 0] ∧ l7 = true
  f9 : l9 = true → v40 = .agg #[.int .i64 j, .int .i64 (st j + 2)] ∧ l8 = true
  f10 : l10 = true → v41 = .int .i64 0 ∧ l8 = true
  f11 : l11 = true → v12 = .pointer (some ⟨k12, 0, none⟩) ∧ w.heap.size ≤ k12 ∧ Blk W k12 (if l12 then #[.int .i64 j, .int .i64 (st j + 2)] else #[.int .i64 0, .int .i64 0]) 151
  f12 : l12 = true → l9 = true ∧ l11 = true
def DeInv (w : World) (N rb tb cb ch : Nat) (now d T : Int) (st due : Nat → Int) (fs : Nat → Value) (j : Nat) (listed : Array Bool) (a : Act) (W : World) : Prop :=
  ∃ l0 l1 l2 l3 l4 l5 l6 l7 l8 l9 l10 l11 l12 v12 v31 v32 v33 v34 v35 v36 v37 v38 v39 v40 v41 k12, listed = #[l0, l1, l2, l3, l4, l5, l6, l7, l8, l9, l10, l11, l12, false] ∧ a = deFr N rb tb cb ch d v12 v31 v32 v33 v34 v35 v36 v37 v38 v39 v40 v41 ∧ DeI w W N cb now d T st due fs j l0 l1 l2 l3 l4 l5 l6 l7 l8 l9 l10 l11 l12 v12 v31 v32 v33 v34 v35 v36 v37 v38 v39 v40 v41 k12
def deDeps : List (List Nat) := [[], [], [], [], [], [2, 3, 4], [], [0, 1, 5, 6, 5], [7], [8], [8], [], [11, 9, 7, 0, 1, 2, 3, 4, 5, 6, 7, 8, 9, 11], [10, 12, 0, 1, 2, 3, 4, 5, 6, 7, 8, 9, 10, 11, 12]]
variable {w : World} {N : Nat} {now : Int} {st due : Nat → Int} {fs : Nat → Value}
def DeadlineDone (w : World) (N : Nat) (now : Int) (st due : Nat → Int) (fs : Nat → Value) (r : TR) (j : Nat) (T : Int) (e : Ending) (w' : World) : Prop :=
  ∃ (c : TR) (cb tb xb : Nat) (pl' : Array Value), e = .returned (.tuple #[.pointer (some ⟨c.b, 0, none⟩), .int .i64 0]) ∧
    (Blk w' cb #[.pointer (some ⟨c.b, 0, none⟩)] 52 ∧ Blk w' tb #[.pointer (some ⟨N + 2, 0, none⟩)] 50 ∧ Blk w' xb #[.int .i64 j, .int .i64 (st j + 2)] 151 ∧ w.heap.size ≤ cb ∧ w.heap.size ≤ tb ∧ w.heap.size ≤ xb ∧ ∀ k, c.has k → w.heap.size ≤ k) ∧
    Tok w' c 0 1 1 (((epl0.setIfInBounds 3 (.pointer none)).setIfInBounds 4 (.func (.func 77) #[] #[.pointer (some ⟨tb, 0, none⟩), .pointer (some ⟨xb, 0, none⟩)])).setIfInBounds 5 (.int .i64 0)) 1 ∧ Tok w' r 0 1 1 pl' 0 ∧
    Clk w' N now 0 (upd st j (st j + 2)) (upd due j T) (upd fs j (deF cb)) ∧ Chg (fun k => r.has k ∨ Turned N k) w w'
theorem deadline_open (r : TR) (j : Nat) (hj : j < 16) (hj0 : ∀ i, i ≤ j → 0 ≤ st i ∧ st i ≤ 1000000000) (hfree : st j % 4 = 0) (hlow : ∀ i, i < j → ¬ st i % 4 = 0) (hrN : ∀ k, r.has k → ¬ Turned N k) (h : Clk w N now 0 st due fs) (n0 : 0 ≤ now ∧ now ≤ 4611686018427387904) (pl : Array Value) (hr : Tok w r 0 0 0 pl 0) (d : Int) (d0 : 0 ≤ d) (d1 : d ≤ 9223372036854775807) (T : Int) (hT : T = now + min d (4611686018427387904 - now)) :
    Calls Tryz.prog 22 #[.pointer none, .pointer (some ⟨N + 2, 0, none⟩), .pointer (some ⟨r.b, 0, none⟩), .int .i64 d] w (DeadlineDone w N now st due fs r j T) := by
  have hA : Clk (w.alloc (.cells #[.pointer (some ⟨N + 2, 0, none⟩)] 50)) N now 0 st due fs := h.chg (S := fun _ => False) ((Chg.refl _ _).alloc _) (fun _ _ _ x => x)
  have hT5 : Blk (w.alloc (.cells #[.pointer (some ⟨N + 2, 0, none⟩)] 50)) w.heap.size #[.pointer (some ⟨N + 2, 0, none⟩)] 50 := Blk.new _ _ _
  have sA : Same w (w.alloc (.cells #[.pointer (some ⟨N + 2, 0, none⟩)] 50)) := (Chg.refl _ _).alloc _
  have hrA := hr.chg sA (fun _ _ x => x)
  have e0 : decide (d < 0) = false := decide_eq_false (by omega)
  have hN35 := h.lt
  have hT0 : 0 ≤ T ∧ T ≤ 4611686018427387904 := by omega
  have HT := Lib.hid hT
  have HR0 := Lib.hid hr
  have HC0 := Lib.hid (And.intro hj0 (And.intro hfree (And.intro hlow hrN)))
  clear hT h hr hj0 hfree hlow hrN
  go_enter Tryz.func22, Tryz.ntmps22
  go_wp2_with fail
  generalize w.alloc (.cells #[.pointer (some ⟨N + 2, 0, none⟩)] 50) = W at *
  generalize hwb : w.heap.size = tb at *
  have HA := Lib.hid (And.intro hA (And.intro hT5 (And.intro sA (And.intro hrA hwb))))
  clear hA hT5 sA hrA hwb
  refine (limit_none_no HA.out.1).mono ?_
  rintro e w1 ⟨rfl, s1⟩
  have H1 := Lib.hid s1
  clear s1
  go_wp2_with fail
  refine (tok_on_nil (HA.out.2.2.2.1.chg H1.out (fun _ _ x => x))).mono ?_
  rintro e _ ⟨rfl, rfl⟩
  go_wp2_with fail
  refine (tok_child 0 (by omega) (HA.out.2.2.2.1.chg H1.out (fun _ _ x => x))).mono ?_
  rintro e w2 ⟨c, pl', rfl, hc, hr2, hcn, q2⟩
  have H2 := Lib.hid (And.intro hc (And.intro hr2 (And.intro hcn q2)))
  clear hc hr2 hcn q2
  go_wp2_with fail
  have hBx : Blk (w2.alloc (.cells #[.pointer (some ⟨c.b, 0, none⟩)] 52)) w2.heap.size #[.pointer (some ⟨c.b, 0, none⟩)] 52 := Blk.new _ _ _
  have sBx : Same w2 (w2.alloc (.cells #[.pointer (some ⟨c.b, 0, none⟩)] 52)) := (Chg.refl _ _).alloc _
  generalize w2.alloc (.cells #[.pointer (some ⟨c.b, 0, none⟩)] 52) = w3 at *
  generalize hcb : w2.heap.size = cb at *
  have HB := Lib.hid (And.intro hBx (And.intro sBx hcb))
  clear hBx sBx hcb
  have rlt : ∀ k, r.has k → k < tb := fun k hk => by have := HR0.out.lt k hk; have := HA.out.2.2.2.2; omega
  have HTB : Hid (Blk w3 tb #[.pointer (some ⟨N + 2, 0, none⟩)] 50) := Lib.hid (HB.out.2.1.blk (H2.out.2.2.2.blk (H1.out.blk HA.out.2.1 (fun x => x)) (fun e => by have := rlt _ e; omega)) (fun x => x))
  have HCK : Hid (Clk w3 N now 0 st due fs) := Lib.hid (((HA.out.1.chg H1.out (fun _ _ _ x => x)).chg H2.out.2.2.2 (fun k h1 h2 e => HC0.out.2.2.2 k e ⟨h1, h2⟩)).chg HB.out.2.1 (fun _ _ _ x => x))
  have htbN : N + 35 ≤ tb := by omega
  have hsz3 : tb ≤ w1.heap.size ∧ w1.heap.size ≤ w2.heap.size ∧ w2.heap.size ≤ w3.heap.size := ⟨by have := (HA.out.2.2.1.trans H1.out).size; have := HA.out.2.2.2.2; omega, H2.out.2.2.2.size, HB.out.2.1.size⟩
  have hw3N : N + 35 ≤ w3.heap.size := by omega
  refine wp_region_until deDeps #[true, true, true, true, true, true, true, true, true, true, true, true, true, false] (DeInv w3 N r.b tb cb c.b now d T st due fs j) (by kernel_rfl) (by kernel_rfl) (by kernel_rfl) ?_ ?_ ?_ ?_ ?_
  · exact ⟨false, false, false, false, false, false, false, false, false, false, false, false, false, undef, undef, undef, undef, undef, undef, undef, undef, undef, undef, undef, undef, 0, rfl, rfl, ⟨(Chg.refl _ _).drew, HCK.out.chg (S := fun _ => False) (Chg.drew (Chg.refl _ _)) (fun _ _ _ x => x), (fun e => by simp at e), (fun e => by simp at e), (fun e => by simp at e), (fun e => by simp at e), (fun e => by simp at e), (fun e => by simp at e), (fun e => by simp at e), (fun e => by simp at e), (fun e => by simp at e), (fun e => by simp at e), (fun e => by simp at e), (fun e => by simp at e), (fun e => by simp at e)⟩⟩
  · rintro listed a W ⟨l0, l1, l2, l3, l4, l5, l6, l7, l8, l9, l10, l11, l12, v12, v31, v32, v33, v34, v35, v36, v37, v38, v39, v40, v41, k12, rfl, rfl, h⟩
    rfl
  · rintro listed a W ⟨l0, l1, l2, l3, l4, l5, l6, l7, l8, l9, l10, l11, l12, v12, v31, v32, v33, v34, v35, v36, v37, v38, v39, v40, v41, k12, rfl, rfl, h⟩ hx
    have := hx 13 (by decide)
    simp at this
  · rintro listed a W i ⟨l0, l1, l2, l3, l4, l5, l6, l7, l8, l9, l10, l11, l12, v12, v31, v32, v33, v34, v35, v36, v37, v38, v39, v40, v41, k12, rfl, rfl, h⟩ hstop hi hl hd
    have hi : i < 14 := hi
    rcases i with _ | _ | _ | _ | _ | _ | _ | _ | _ | _ | _ | _ | _ | _ | i
    all_goals simp [deDeps] at hl hd
    · subst hl
      have nl7 : l7 = false := by cases l7 with | false => rfl | true => have := h.f7 rfl; simp at this
      subst nl7
      have c5 : W.cell? ⟨tb, 0, none⟩ = some (.pointer (some ⟨N + 2, 0, none⟩)) := (h.same.blk HTB.out (by unfold Turned; omega)).cellAt 0 rfl
      refine wpOp_shut (o := _) (by simp only [List.getElem?_toArray, List.getElem?_cons_zero]; rfl) (fun K' hK => ?_)
      unfold deFr
      go_simp
      exact hK.out _ _ ⟨true, l1, l2, l3, l4, l5, l6, false, l8, l9, l10, l11, l12, v12, v31, _, v33, v34, v35, v36, v37, v38, v39, v40, v41, k12, rfl, rfl, ⟨h.same, h.clk, fun _ => rfl, h.f1, h.f2, h.f3, h.f4, h.f5, h.f6, (fun e => by cases e), h.f8, h.f9, h.f10, h.f11, h.f12⟩⟩
    · subst hl
      have nl7 : l7 = false := by cases l7 with | false => rfl | true => have := h.f7 rfl; simp at this
      subst nl7
      refine wpOp_shut (o := _) (by simp only [List.getElem?_toArray, List.getElem?_cons_zero, List.getElem?_cons_succ]; rfl) (fun K' hK => ?_)
      unfold deFr
      go_simp
      exact hK.out _ _ ⟨l0, true, l2, l3, l4, l5, l6, false, l8, l9, l10, l11, l12, v12, v31, v32, _, v34, v35, v36, v37, v38, v39, v40, v41, k12, rfl, rfl, ⟨h.same, h.clk, h.f0, fun _ => rfl, h.f2, h.f3, h.f4, h.f5, h.f6, (fun e => by cases e), h.f8, h.f9, h.f10, h.f11, h.f12⟩⟩
    · subst hl
      have nl5 : l5 = false := by cases l5 with | false => rfl | true => have := h.f5 rfl; simp at this
      subst nl5
      refine wpOp_shut (o := _) (by simp only [List.getElem?_toArray, List.getElem?_cons_zero, List.getElem?_cons_succ]; rfl) (fun K' hK => ?_)
      unfold deFr
      go_simp
      exact hK.out _ _ ⟨l0, l1, true, l3, l4, false, l6, l7, l8, l9, l10, l11, l12, v12, v31, v32, v33, _, v35, v36, v37, v38, v39, v40, v41, k12, rfl, rfl, ⟨h.same, h.clk, h.f0, h.f1, fun _ => rfl, h.f3, h.f4, (fun e => by cases e), h.f6, h.f7, h.f8, h.f9, h.f10, h.f11, h.f12⟩⟩
    · subst hl
      have nl5 : l5 = false := by cases l5 with | false => rfl | true => have := h.f5 rfl; simp at this
      subst nl5
      have c5 : W.cell? ⟨tb, 0, none⟩ = some (.pointer (some ⟨N + 2, 0, none⟩)) := (h.same.blk HTB.out (by unfold Turned; omega)).cellAt 0 rfl
      refine wpOp_shut (o := _) (by simp only [List.getElem?_toArray, List.getElem?_cons_zero, List.getElem?_cons_succ]; rfl) (fun K' hK => ?_)
      unfold deFr
      go_simp
      exact hK.out _ _ ⟨l0, l1, l2, true, l4, false, l6, l7, l8, l9, l10, l11, l12, v12, v31, v32, v33, v34, _, v36, v37, v38, v39, v40, v41, k12, rfl, rfl, ⟨h.same, h.clk, h.f0, h.f1, h.f2, fun _ => rfl, h.f4, (fun e => by cases e), h.f6, h.f7, h.f8, h.f9, h.f10, h.f11, h.f12⟩⟩
    · subst hl
      have nl5 : l5 = false := by cases l5 with | false => rfl | true => have := h.f5 rfl; simp at this
      subst nl5
      refine wpOp_shut (o := _) (by simp only [List.getElem?_toArray, List.getElem?_cons_zero, List.getElem?_cons_succ]; rfl) (fun K' hK => ?_)
      unfold deFr
      go_simp
      exact hK.out _ _ ⟨l0, l1, l2, l3, true, false, l6, l7, l8, l9, l10, l11, l12, v12, v31, v32, v33, v34, v35, _, v37, v38, v39, v40, v41, k12, rfl, rfl, ⟨h.same, h.clk, h.f0, h.f1, h.f2, h.f3, fun _ => rfl, (fun e => by cases e), h.f6, h.f7, h.f8, h.f9, h.f10, h.f11, h.f12⟩⟩
    · obtain ⟨e2, e3, e4⟩ := hd
      subst hl e2 e3 e4
      have nl7 : l7 = false := by cases l7 with | false => rfl | true => have := h.f7 rfl; simp at this
      subst nl7
      obtain rfl := h.f2 rfl
      obtain rfl := h.f3 rfl
      obtain rfl := h.f4 rfl
      refine wpOp_shut (o := _) (by simp only [List.getElem?_toArray, List.getElem?_cons_zero, List.getElem?_cons_succ]; rfl) (fun K' hK => ?_)
      unfold deFr
      go_simp
      refine (limit_due h.clk n0 d d0 d1 T HT.out).mono ?_
      rintro e _ ⟨rfl, rfl⟩
      go_wp2_with fail
      exact hK.out _ _ ⟨l0, l1, true, true, true, true, l6, false, l8, l9, l10, l11, l12, v12, v31, v32, v33, _, _, _, _, v38, v39, v40, v41, k12, rfl, rfl, ⟨h.same, h.clk, h.f0, h.f1, h.f2, h.f3, h.f4, fun _ => ⟨rfl, rfl, rfl, rfl⟩, h.f6, (fun e => by cases e), h.f8, h.f9, h.f10, h.f11, h.f12⟩⟩
    · subst hl
      have nl7 : l7 = false := by cases l7 with | false => rfl | true => have := h.f7 rfl; simp at this
      subst nl7
      refine wpOp_shut (o := _) (by simp only [List.getElem?_toArray, List.getElem?_cons_zero, List.getElem?_cons_succ]; rfl) (fun K' hK => ?_)
      unfold deFr
      go_simp
      exact hK.out _ _ ⟨l0, l1, l2, l3, l4, l5, true, false, l8, l9, l10, l11, l12, v12, v31, v32, v33, v34, v35, v36, v37, _, v39, v40, v41, k12, rfl, rfl, ⟨h.same, h.clk, h.f0, h.f1, h.f2, h.f3, h.f4, h.f5, fun _ => rfl, (fun e => by cases e), h.f8, h.f9, h.f10, h.f11, h.f12⟩⟩
    · obtain ⟨e0', e1, e5, e6, _⟩ := hd
      subst hl e0' e1 e5 e6
      have nl8 : l8 = false := by cases l8 with | false => rfl | true => have := h.f8 rfl; simp at this
      subst nl8
      obtain rfl := h.f0 rfl
      obtain rfl := h.f1 rfl
      obtain ⟨rfl, hl2, hl3, hl4⟩ := h.f5 rfl
      obtain rfl := h.f6 rfl
      have hck : Clk W N now 0 st due fs := h.clk
      refine wpOp_shut (o := _) (by simp only [List.getElem?_toArray, List.getElem?_cons_zero, List.getElem?_cons_succ]; rfl) (fun K' hK => ?_)
      unfold deFr
      go_simp
      refine (clk_set hck j hj HC0.out.1 HC0.out.2.1 HC0.out.2.2.1 T hT0.1 hT0.2 76 _).mono ?_
      rintro e W1 ⟨rfl, hck1, hc1⟩
      go_wp2_with fail
      exact hK.out _ _ ⟨true, true, l2, l3, l4, true, true, true, false, l9, l10, l11, l12, v12, v31, _, _, v34, v35, v36, _, _, _, v40, v41, k12, rfl, rfl, ⟨h.same.trans hc1, hck1, h.f0, h.f1, h.f2, h.f3, h.f4, h.f5, h.f6, fun _ => ⟨rfl, rfl, rfl, rfl, rfl⟩, (fun e => by cases e), h.f9, h.f10, fun e => ⟨(h.f11 e).1, (h.f11 e).2.1, hc1.blk (h.f11 e).2.2 (fun x => by have := (h.f11 e).2.1; unfold Turned at x; omega)⟩, h.f12⟩⟩
    · subst hl hd
      have nl9 : l9 = false := by cases l9 with | false => rfl | true => have := h.f9 rfl; simp at this
      subst nl9
      have nl10 : l10 = false := by cases l10 with | false => rfl | true => have := h.f10 rfl; simp at this
      subst nl10
      obtain ⟨rfl, hx⟩ := h.f7 rfl
      refine wpOp_shut (o := _) (by simp only [List.getElem?_toArray, List.getElem?_cons_zero, List.getElem?_cons_succ]; rfl) (fun K' hK => ?_)
      unfold deFr
      go_simp
      exact hK.out _ _ ⟨l0, l1, l2, l3, l4, l5, l6, true, true, false, false, l11, l12, v12, _, v32, v33, v34, v35, v36, v37, v38, _, v40, v41, k12, rfl, rfl, ⟨h.same, h.clk, h.f0, h.f1, h.f2, h.f3, h.f4, h.f5, h.f6, h.f7, fun _ => ⟨rfl, rfl⟩, (fun e => by cases e), (fun e => by cases e), h.f11, h.f12⟩⟩
    · subst hl hd
      have n12 : l12 = false := by cases l12 with | false => rfl | true => have := h.f12 rfl; simp at this
      subst n12
      obtain ⟨rfl, hx⟩ := h.f8 rfl
      refine wpOp_shut (o := _) (by simp only [List.getElem?_toArray, List.getElem?_cons_zero, List.getElem?_cons_succ]; rfl) (fun K' hK => ?_)
      unfold deFr
      go_simp
      exact hK.out _ _ ⟨l0, l1, l2, l3, l4, l5, l6, l7, true, true, l10, l11, false, v12, _, v32, v33, v34, v35, v36, v37, v38, v39, _, v41, k12, rfl, rfl, ⟨h.same, h.clk, h.f0, h.f1, h.f2, h.f3, h.f4, h.f5, h.f6, h.f7, h.f8, fun _ => ⟨rfl, rfl⟩, h.f10, h.f11, (fun e => by cases e)⟩⟩
    · subst hl hd
      obtain ⟨rfl, hx⟩ := h.f8 rfl
      refine wpOp_shut (o := _) (by simp only [List.getElem?_toArray, List.getElem?_cons_zero, List.getElem?_cons_succ]; rfl) (fun K' hK => ?_)
      unfold deFr
      go_simp
      exact hK.out _ _ ⟨l0, l1, l2, l3, l4, l5, l6, l7, true, l9, true, l11, l12, v12, _, v32, v33, v34, v35, v36, v37, v38, v39, v40, _, k12, rfl, rfl, ⟨h.same, h.clk, h.f0, h.f1, h.f2, h.f3, h.f4, h.f5, h.f6, h.f7, h.f8, h.f9, fun _ => ⟨rfl, rfl⟩, h.f11, h.f12⟩⟩
    · subst hl
      have n12 : l12 = false := by cases l12 with | false => rfl | true => have := h.f12 rfl; simp at this
      subst n12
      refine wpOp_shut (o := _) (by simp only [List.getElem?_toArray, List.getElem?_cons_zero, List.getElem?_cons_succ]; rfl) (fun K' hK => ?_)
      unfold deFr
      go_simp
      have hsz := h.same.size
      have hal : Same W (W.alloc (.cells #[.int .i64 0, .int .i64 0] 151)) := (Chg.refl _ _).alloc _
      exact hK.out _ _ ⟨l0, l1, l2, l3, l4, l5, l6, l7, l8, l9, l10, true, false, _, v31, v32, v33, v34, v35, v36, v37, v38, v39, v40, v41, W.heap.size, rfl, rfl, ⟨h.same.alloc _, h.clk.chg hal (fun _ _ _ x => x), h.f0, h.f1, h.f2, h.f3, h.f4, h.f5, h.f6, h.f7, h.f8, h.f9, h.f10, fun _ => ⟨rfl, hsz, Blk.new _ _ _⟩, (fun e => by cases e)⟩⟩
    · have e9 : l9 = true := hd.2.1
      have e11 : l11 = true := hd.1
      subst hl e9 e11
      obtain ⟨rfl, e8⟩ := h.f9 rfl
      subst e8
      obtain ⟨rfl, hk12, hB12⟩ := h.f11 rfl
      have hB12' : Blk W k12 #[.int .i64 0, .int .i64 0] 151 := hB12
      have d0' := hB12'.cellAt 0 (v := .int .i64 0) rfl
      have d1' := hB12'.cellAt 1 (v := .int .i64 0) rfl
      have z0' := hB12'.free 0
      have z1' := hB12'.free 1
      refine wpOp_shut (o := _) (by simp only [List.getElem?_toArray, List.getElem?_cons_zero, List.getElem?_cons_succ]; rfl) (fun K' hK => ?_)
      unfold deFr
      go_simp
      have hc12 : Chg (· = k12) W ((W.setCell ⟨k12, 0, none⟩ (.int .i64 j)).setCell ⟨k12, 1, none⟩ (.int .i64 (st j + 2))) := ((Chg.refl (· = k12) W).setCell (p := ⟨k12, 0, none⟩) (.inl rfl) _).setCell (p := ⟨k12, 1, none⟩) (.inl rfl) _
      exact hK.out _ _ ⟨l0, l1, l2, l3, l4, l5, l6, l7, true, true, l10, true, true, _, v31, v32, v33, v34, v35, v36, v37, v38, v39, _, v41, k12, rfl, rfl, ⟨(h.same.setCell (p := ⟨k12, 0, none⟩) (.inr hk12) _).setCell (p := ⟨k12, 1, none⟩) (.inr hk12) _, h.clk.chg hc12 (fun k h1 h2 e => by have e : k = k12 := e; omega), h.f0, h.f1, h.f2, h.f3, h.f4, h.f5, h.f6, h.f7, h.f8, h.f9, h.f10, fun _ => ⟨rfl, hk12, (hB12'.set 0 _).set 1 _⟩, fun _ => ⟨rfl, rfl⟩⟩⟩
    · exfalso
      apply hstop
      simp_all
  · rintro a W ⟨l0, l1, l2, l3, l4, l5, l6, l7, l8, l9, l10, l11, l12, v12, v31, v32, v33, v34, v35, v36, v37, v38, v39, v40, v41, k12, hls, rfl, h⟩ fuel hfuel
    simp only [Array.mk.injEq, List.cons.injEq] at hls
    obtain ⟨rfl, rfl, rfl, rfl, rfl, rfl, rfl, rfl, rfl, rfl, rfl, rfl, rfl, _⟩ := hls
    obtain rfl := h.f0 rfl
    obtain rfl := h.f1 rfl
    obtain rfl := h.f2 rfl
    obtain rfl := h.f3 rfl
    obtain rfl := h.f4 rfl
    obtain ⟨rfl, _⟩ := h.f5 rfl
    obtain rfl := h.f6 rfl
    obtain ⟨rfl, _⟩ := h.f7 rfl
    obtain ⟨rfl, _⟩ := h.f8 rfl
    obtain ⟨rfl, _⟩ := h.f9 rfl
    obtain ⟨rfl, _⟩ := h.f10 rfl
    obtain ⟨rfl, hk12, hB12⟩ := h.f11 rfl
    have hck : Clk W N now 0 (upd st j (st j + 2)) (upd due j T) (upd fs j (deF cb)) := h.clk
    have hB12' : Blk W k12 #[.int .i64 j, .int .i64 (st j + 2)] 151 := hB12
    have hsame := h.same
    clear h hB12
    refine wpAny_next (i := 13) (n := 0) (o := _) (by kernel_rfl) (by simp only [List.getElem?_toArray, List.getElem?_cons_zero, List.getElem?_cons_succ]; rfl) (by kernel_rfl) hfuel (fun K' hK => ?_)
    unfold deFr
    go_simp
    refine hK.out _ _ (fun fuel _ => wpAny_done (by kernel_rfl) ?_ fuel)
    clear hK K'
    have hBc := hsame.blk HB.out.1 (fun e => by have := HB.out.2.2; unfold Turned at e; omega)
    have hBt := hsame.blk HTB.out (fun e => by unfold Turned at e; omega)
    have hTc := (H2.out.1.chg HB.out.2.1 (fun _ _ x => x)).chg hsame (fun k hk e => by have := H2.out.2.2.1 k hk; unfold Turned at e; omega)
    have hTr := (H2.out.2.1.chg HB.out.2.1 (fun _ _ x => x)).chg hsame HC0.out.2.2.2
    have c5 := hBc.cellAt 0 (v := .pointer (some ⟨c.b, 0, none⟩)) rfl
    have HW := Lib.hid (And.intro hck (And.intro hB12' (And.intro hsame (And.intro hBc (And.intro hBt (And.intro hTc hTr))))))
    clear hck hB12' hsame hBc hBt hTc hTr
    go_wp2_with fail
    refine (tok_on_add HW.out.2.2.2.2.2.1 _ _).mono ?_
    rintro e w5 ⟨rfl, hc5, q5⟩
    obtain ⟨hck, hB12', hsame, hBc, hBt, hTc, hTr⟩ := HW.out
    have hcn := H2.out.2.2.1
    have clt := H2.out.1.lt
    have hcb := HB.out.2.2
    have hwt := HA.out.2.2.2.2
    have hBc5 := q5.blk hBc (fun e => by have := clt _ e; omega)
    have hBt5 := q5.blk hBt (fun e => by have := hcn _ e; have := HA.out.2.1.lt; have := H1.out.size; omega)
    have hBx5 := q5.blk hB12' (fun e => by have := clt _ e; omega)
    have hck5 := hck.chg q5 (fun k h1 h2 e => by have := hcn _ e; omega)
    have hTr5 := hTr.chg q5 (fun k hk e => by have := rlt k hk; have := hcn _ e; omega)
    have d5 := hBc5.cellAt 0 (v := .pointer (some ⟨c.b, 0, none⟩)) rfl
    have hall : Chg (fun k => r.has k ∨ Turned N k) w w5 := (((HA.out.2.2.1.trans H1.out).mono (S' := fun k => r.has k ∨ Turned N k) (fun _ _ x => x.elim)).trans ((H2.out.2.2.2.mono (fun _ _ e => .inl e)).trans ((HB.out.2.1.mono (S' := fun k => r.has k ∨ Turned N k) (fun _ _ x => x.elim)).trans (hsame.mono (fun _ _ e => .inr e))))).trans' q5 (fun i hi e => by have := hcn _ e; omega)
    have HE := Lib.hid (And.intro hBc5 (And.intro hBt5 (And.intro hBx5 (And.intro hck5 (And.intro hTr5 (And.intro hall hc5))))))
    clear hck hB12' hsame hBc hBt hTc hTr hBc5 hBt5 hBx5 hck5 hTr5 hall hc5 q5 c5 clt
    go_wp2_with fail
    go_ret2
    obtain ⟨a1, a2, a3, a4, a5, a6, a7⟩ := HE.out
    exact ⟨c, cb, tb, k12, _, rfl, ⟨a1, a2, a3, by omega, by omega, by omega, fun k hk => by have := hcn k hk; omega⟩, a7, a5, a4, a6⟩
end Go.Proofs.YtgljjgmfhememaaGreatDoor
