/- join.Any of open futures. Conditions: none. -/
import Derived.Test.YtgljjgmfhememaaGreatDoorJoinG
import Derived.Test.YtgljjgmfhememaaGreatDoorInv
import Derived.Laws.MakeOwn
namespace Go.Proofs.YtgljjgmfhememaaGreatDoor
open Go Go.RowKit Go.Sort
set_option maxRecDepth 100000
set_option maxHeartbeats 1000000
/-- A block of another type is none of a future's. -/
theorem FutF.ne_blk {w : World} {r : FR} {fs : List (Nat × Array Value)} (h : FutF w r fs) {k : Nat} {cs : Array Value} {T : TypeId} (hb : Blk w k cs T)
    (h1 : 31 ≠ T) (h2 : 173 ≠ T) (h3 : 226 ≠ T) (h4 : 304 ≠ T) : ¬ r.has k := by
  obtain ⟨pl, h, _⟩ := h
  have n1 := h.blk.ne hb h1
  have n2 := h.cell.ne hb h2
  have n3 := h.list.blk.ne hb h3
  have n4 := h.list.clast.ne hb h2
  have n5 := h.list.chead.ne hb h2
  have n6 := h.list.places.ne hb h4
  unfold FR.has
  omega
/-- The frame of Any while its region goes. -/
def anyFr (p : Option Addr) (cap n : Nat) (v6 v7 v8 v15 v16 v17 v18 v19 : Value) : Act := ⟨#[.pointer none, .slice p n cap, undef, undef, .pointer none, .int .i64 0, v6, v7, v8, undef, .slice p n cap, .bool false, .slice p n cap, .int .i64 n, .bool false, v15, v16, v17, v18, v19, undef, undef, undef, undef, undef, undef, undef, undef], []⟩
structure AnyI (w W : World) (p : Option Addr) (cap n : Nat) (l0 l1 l2 l3 l4 l5 l6 l7 l8 : Bool) (v6 v7 v8 v15 v16 v17 v18 v19 : Value) (g : FR) (k6 k7 k8 : Nat) : Prop where
  same : Same w W
  f0 : l0 = true → v15 = .pointer (some ⟨g.b, 0, none⟩) ∧ FutF W g [] ∧ ∀ k, g.has k → w.heap.size ≤ k
  f1 : l1 = true → ∃ k, v16 = .pointer (some ⟨k, 0, none⟩)
  f2 : l2 = true → v17 = .slice p n cap
  f3 : l3 = true → v18 = .int .i64 n
  f4 : l4 = true → ∃ k, v19 = .slice (some ⟨k, 0, none⟩) n n
  f5 : l5 = true → v6 = .pointer (some ⟨k6, 0, none⟩) ∧ w.heap.size ≤ k6 ∧ Blk W k6 #[if l8 then v15 else .pointer none] 24
  f6 : l6 = true → v7 = .pointer (some ⟨k7, 0, none⟩) ∧ w.heap.size ≤ k7 ∧ ∃ x, Blk W k7 #[x] 26
  f7 : l7 = true → v8 = .pointer (some ⟨k8, 0, none⟩) ∧ w.heap.size ≤ k8 ∧ ∃ x, Blk W k8 #[x] 90
  f8 : l8 = true → l0 = true ∧ l5 = true
theorem AnyI.mono {w W W' : World} {p : Option Addr} {cap n : Nat} {l0 l1 l2 l3 l4 l5 l6 l7 l8 : Bool} {v6 v7 v8 v15 v16 v17 v18 v19 : Value} {g : FR} {k6 k7 k8 : Nat}
    (h : AnyI w W p cap n l0 l1 l2 l3 l4 l5 l6 l7 l8 v6 v7 v8 v15 v16 v17 v18 v19 g k6 k7 k8) (s : Same W W') : AnyI w W' p cap n l0 l1 l2 l3 l4 l5 l6 l7 l8 v6 v7 v8 v15 v16 v17 v18 v19 g k6 k7 k8 :=
  ⟨h.same.trans s, fun e => ⟨(h.f0 e).1, (h.f0 e).2.1.chg s (fun _ _ x => x), (h.f0 e).2.2⟩, h.f1, h.f2, h.f3, h.f4, fun e => ⟨(h.f5 e).1, (h.f5 e).2.1, s.blk (h.f5 e).2.2 (fun x => x)⟩,
    fun e => ⟨(h.f6 e).1, (h.f6 e).2.1, by obtain ⟨x, hx⟩ := (h.f6 e).2.2; exact ⟨x, s.blk hx (fun x => x)⟩⟩, fun e => ⟨(h.f7 e).1, (h.f7 e).2.1, by obtain ⟨x, hx⟩ := (h.f7 e).2.2; exact ⟨x, s.blk hx (fun x => x)⟩⟩, h.f8⟩
def AnyInv (w : World) (p : Option Addr) (cap n : Nat) (listed : Array Bool) (a : Act) (W : World) : Prop :=
  ∃ l0 l1 l2 l3 l4 l5 l6 l7 l8 l9 v6 v7 v8 v15 v16 v17 v18 v19 g k6 k7 k8, listed = #[l0, l1, l2, l3, l4, l5, l6, l7, l8, l9, false] ∧ a = anyFr p cap n v6 v7 v8 v15 v16 v17 v18 v19 ∧ AnyI w W p cap n l0 l1 l2 l3 l4 l5 l6 l7 l8 v6 v7 v8 v15 v16 v17 v18 v19 g k6 k7 k8
def anyDeps : List (List Nat) := [[], [0], [], [2], [3, 3], [], [], [], [5, 0, 1, 0, 5, 6, 7], [6, 1, 8, 0, 1, 5, 6, 7, 8], [7, 4, 9, 0, 1, 2, 3, 4, 5, 6, 7, 8, 9]]
theorem emake (W : World) (n : Nat) (hn : n ≤ 1000000) : (Instr.makeSlice 90 (.int .i64 (n : Int)) (.int .i64 (n : Int))).run Tryz.prog W = .ok (.slice (some ⟨W.heap.size, 0, none⟩) n n) (W.alloc (.cells (madeCells (Value.cells .nilIface) n) 29)) := by
  obtain ⟨i0, hi, hz0, hz1, hz2⟩ := info_parts (P := Tryz.prog) (e := 29) (z := .nilIface) (size := 1) (bytes := 16) (by kernel_rfl)
  have := run_make (P := Tryz.prog) W 90 29 i0 .nilIface Tryz.underlying90 hi hz0 .i64 .i64 n n (by omega) (Int.le_refl _) (by rw [hz2]; omega) (by omega)
  rw [hz1] at this
  simpa using this
/-- What Any's functions are. -/
def ClAny (k6 : Nat) (_ : Nat) (G : Nat) (cg : Array Value) (_ : World) : Prop := G = 60 ∧ ∃ x y z, cg = #[.pointer (some ⟨k6, 0, none⟩), x, y, z]
theorem gives_any_c (w : World) (k6 : Nat) (q2 q3 : Value) : GivesC w 59 #[.pointer (some ⟨k6, 0, none⟩), q2, q3] (ClAny k6) := by
  refine ⟨fun a w => by kernel_rfl, fun W hW i => ?_⟩
  show Calls Tryz.prog 59 #[.int .i64 i, .pointer (some ⟨k6, 0, none⟩), q2, q3] W _
  go_enter Tryz.func59, Tryz.ntmps59
  go_wp2_with fail
  go_ret
  exact ⟨⟨_, _, rfl, rfl, _, _, _, rfl⟩, (Chg.refl _ _).alloc _⟩
/-- What such a call leaves. -/
def AnyDone (w : World) (rs : List FR) (fss : Nat → List (Nat × Array Value)) (e : Ending) (w' : World) : Prop :=
  ∃ (g : FR) (k6 : Nat), e = .returned (.tuple #[.pointer (some ⟨g.b, 0, none⟩), .int .i64 0]) ∧ FutF w' g [] ∧ Blk w' k6 #[.pointer (some ⟨g.b, 0, none⟩)] 24 ∧ (∀ k, g.has k → w.heap.size ≤ k) ∧ w.heap.size ≤ k6 ∧
    (∀ j (hj : j < rs.length), More (fss j) (ClAny k6) w' rs[j] j) ∧ Chg (Any rs) w w'
theorem any_open (w : World) (l : Value) (rs : List FR) (fss : Nat → List (Nat × Array Value)) (hn : ∀ j, (fss j).length ≤ 2) (hl : Ptrs w l (rs.map fun r => some ⟨r.b, 0, none⟩)) (hap : Apart rs) (hf : ∀ j (hj : j < rs.length), FutF w rs[j] (fss j))
    (hlb : ∀ a m c, l = .slice (some a) m c → rs ≠ [] → ¬ Any rs a.block ∧ a.block < w.heap.size) (hk1 : 1 ≤ rs.length) :
    Calls Tryz.prog 12 #[.pointer none, l] w (AnyDone w rs fss) := by
  have hj := join_none_no w l _ hl (fun p hp => by obtain ⟨r, hr, rfl⟩ := List.mem_map.1 hp; obtain ⟨j, hj, rfl⟩ := List.getElem_of_mem hr; exact (hf j hj).n.made)
  obtain ⟨p, cap, rfl⟩ := hl.slice
  simp only [List.length_map] at *
  have hlen : rs.length ≤ 1000000 := by have := hl.1; simpa using this
  have HL := Lib.hid hl
  have HA := Lib.hid hap
  have HF := Lib.hid hf
  have HB := Lib.hid hlb
  clear hl hap hf hlb
  have hne : ((rs.length : Int) == 0) = false := beq_eq_false_iff_ne.2 (by omega)
  go_enter Tryz.func12, Tryz.ntmps12
  go_wp2_with fail
  refine hj.mono ?_
  rintro e _ ⟨rfl, rfl⟩
  clear hj
  go_wp2_with fail
  refine wp_region_until anyDeps #[true, true, true, true, true, true, true, true, true, true, false] (AnyInv w p cap rs.length) (by kernel_rfl) (by kernel_rfl) (by kernel_rfl) ?_ ?_ ?_ ?_ ?_
  · exact ⟨false, false, false, false, false, false, false, false, false, false, undef, undef, undef, undef, undef, undef, undef, undef, ⟨0, 0, 0, 0, 0, 0⟩, 0, 0, 0, rfl, rfl, ⟨(Chg.refl _ _).drew, fun e => by simp at e, fun e => by simp at e, fun e => by simp at e, fun e => by simp at e, fun e => by simp at e, fun e => by simp at e, fun e => by simp at e, fun e => by simp at e, fun e => by simp at e⟩⟩
  · rintro listed a W ⟨l0, l1, l2, l3, l4, l5, l6, l7, l8, l9, v6, v7, v8, v15, v16, v17, v18, v19, g, k6, k7, k8, rfl, rfl, h⟩
    rfl
  · rintro listed a W ⟨l0, l1, l2, l3, l4, l5, l6, l7, l8, l9, v6, v7, v8, v15, v16, v17, v18, v19, g, k6, k7, k8, rfl, rfl, h⟩ hx
    have := hx 10 (by decide)
    simp at this
  · rintro listed a W i ⟨l0, l1, l2, l3, l4, l5, l6, l7, l8, l9, v6, v7, v8, v15, v16, v17, v18, v19, g, k6, k7, k8, rfl, rfl, h⟩ hstop hi hl hd
    have hi : i < 11 := hi
    rcases i with _ | _ | _ | _ | _ | _ | _ | _ | _ | _ | _ | i
    all_goals simp [anyDeps] at hl hd
    · subst hl
      have n8 : l8 = false := by cases l8 with | false => rfl | true => have := (h.f8 rfl).1; simp at this
      subst n8
      refine wpOp_shut (o := _) (by simp only [List.getElem?_toArray, List.getElem?_cons_zero]; rfl) (fun K' hK => ?_)
      unfold anyFr
      go_simp
      refine (fut_new _).mono ?_
      rintro e W1 ⟨b, s, lf, lb, hb, pb, rfl, hF, g1, g2, g3, g4, g5, g6, s1⟩
      have h' := h.mono s1
      have hsz := h.same.size
      go_wp2_with fail
      exact hK.out _ _ ⟨true, l1, l2, l3, l4, l5, l6, l7, false, l9, v6, v7, v8, _, v16, v17, v18, v19, ⟨b, s, lf, lb, hb, pb⟩, k6, k7, k8, rfl, rfl,
        ⟨h'.same, fun _ => ⟨rfl, .empty hF, fun k hk => by unfold FR.has at hk; simp only at hk; omega⟩, h'.f1, h'.f2, h'.f3, h'.f4, h'.f5, h'.f6, h'.f7, fun e => by cases e⟩⟩
    · subst hl
      refine wpOp_shut (o := _) (by simp only [List.getElem?_toArray, List.getElem?_cons_zero, List.getElem?_cons_succ]; rfl) (fun K' hK => ?_)
      unfold anyFr
      go_simp
      refine (cell_new _ _).mono ?_
      rintro e W1 ⟨rfl, rfl⟩
      have h' := h.mono ((Chg.refl _ W).alloc (.cells #[.int .i64 0, .bool true, .int .i32 0, .int .u32 0, .chan none] 173))
      go_wp2_with fail
      exact hK.out _ _ ⟨l0, true, l2, l3, l4, l5, l6, l7, l8, l9, v6, v7, v8, v15, _, v17, v18, v19, g, k6, k7, k8, rfl, rfl,
        ⟨h'.same, h'.f0, fun _ => ⟨_, rfl⟩, h'.f2, h'.f3, h'.f4, h'.f5, h'.f6, h'.f7, h'.f8⟩⟩
    · subst hl
      refine wpOp_shut (o := _) (by simp only [List.getElem?_toArray, List.getElem?_cons_zero, List.getElem?_cons_succ]; rfl) (fun K' hK => ?_)
      unfold anyFr
      go_simp
      exact hK.out _ _ ⟨l0, l1, true, l3, l4, l5, l6, l7, l8, l9, v6, v7, v8, v15, v16, _, v18, v19, g, k6, k7, k8, rfl, rfl,
        ⟨h.same, h.f0, h.f1, fun _ => rfl, h.f3, h.f4, h.f5, h.f6, h.f7, h.f8⟩⟩
    · subst hl
      obtain rfl := h.f2 hd
      refine wpOp_shut (o := _) (by simp only [List.getElem?_toArray, List.getElem?_cons_zero, List.getElem?_cons_succ]; rfl) (fun K' hK => ?_)
      unfold anyFr
      go_simp
      exact hK.out _ _ ⟨l0, l1, l2, true, l4, l5, l6, l7, l8, l9, v6, v7, v8, v15, v16, _, _, v19, g, k6, k7, k8, rfl, rfl,
        ⟨h.same, h.f0, h.f1, h.f2, fun _ => rfl, h.f4, h.f5, h.f6, h.f7, h.f8⟩⟩
    · subst hl
      obtain rfl := h.f3 hd
      have hmk := emake W rs.length (by omega)
      refine wpOp_shut (o := _) (by simp only [List.getElem?_toArray, List.getElem?_cons_zero, List.getElem?_cons_succ]; rfl) (fun K' hK => ?_)
      unfold anyFr
      go_simp
      have h' := h.mono ((Chg.refl _ W).alloc (.cells (madeCells (Value.cells .nilIface) rs.length) 29))
      exact hK.out _ _ ⟨l0, l1, l2, l3, true, l5, l6, l7, l8, l9, v6, v7, v8, v15, v16, v17, _, _, g, k6, k7, k8, rfl, rfl,
        ⟨h'.same, h'.f0, h'.f1, h'.f2, h'.f3, fun _ => ⟨_, rfl⟩, h'.f5, h'.f6, h'.f7, h'.f8⟩⟩
    · subst hl
      have n8 : l8 = false := by cases l8 with | false => rfl | true => have := (h.f8 rfl).2; simp at this
      subst n8
      refine wpOp_shut (o := _) (by simp only [List.getElem?_toArray, List.getElem?_cons_zero, List.getElem?_cons_succ]; rfl) (fun K' hK => ?_)
      unfold anyFr
      go_simp
      have h' := h.mono ((Chg.refl _ W).alloc (.cells #[.pointer none] 24))
      have hsz := h.same.size
      exact hK.out _ _ ⟨l0, l1, l2, l3, l4, true, l6, l7, false, l9, _, v7, v8, v15, v16, v17, v18, v19, g, W.heap.size, k7, k8, rfl, rfl,
        ⟨h'.same, h'.f0, h'.f1, h'.f2, h'.f3, h'.f4, fun _ => ⟨rfl, hsz, Blk.new _ _ _⟩, h'.f6, h'.f7, fun e => by cases e⟩⟩
    · subst hl
      refine wpOp_shut (o := _) (by simp only [List.getElem?_toArray, List.getElem?_cons_zero, List.getElem?_cons_succ]; rfl) (fun K' hK => ?_)
      unfold anyFr
      go_simp
      have h' := h.mono ((Chg.refl _ W).alloc (.cells #[.pointer none] 26))
      have hsz := h.same.size
      exact hK.out _ _ ⟨l0, l1, l2, l3, l4, l5, true, l7, l8, l9, v6, _, v8, v15, v16, v17, v18, v19, g, k6, W.heap.size, k8, rfl, rfl,
        ⟨h'.same, h'.f0, h'.f1, h'.f2, h'.f3, h'.f4, h'.f5, fun _ => ⟨rfl, hsz, _, Blk.new _ _ _⟩, h'.f7, h'.f8⟩⟩
    · subst hl
      refine wpOp_shut (o := _) (by simp only [List.getElem?_toArray, List.getElem?_cons_zero, List.getElem?_cons_succ]; rfl) (fun K' hK => ?_)
      unfold anyFr
      go_simp
      have h' := h.mono ((Chg.refl _ W).alloc (.cells #[.slice none 0 0] 90))
      have hsz := h.same.size
      exact hK.out _ _ ⟨l0, l1, l2, l3, l4, l5, l6, true, l8, l9, v6, v7, _, v15, v16, v17, v18, v19, g, k6, k7, W.heap.size, rfl, rfl,
        ⟨h'.same, h'.f0, h'.f1, h'.f2, h'.f3, h'.f4, h'.f5, h'.f6, fun _ => ⟨rfl, hsz, _, Blk.new _ _ _⟩, h'.f8⟩⟩
    · obtain ⟨e5, e0, e1, _, _, e6, e7⟩ := hd
      subst hl e5 e0 e1 e6 e7
      obtain ⟨rfl, hFg, hgn⟩ := h.f0 rfl
      obtain ⟨rfl, hk6, hB6⟩ := h.f5 rfl
      obtain ⟨x7, hB7⟩ := (h.f6 rfl).2.2
      obtain ⟨x8, hB8⟩ := (h.f7 rfl).2.2
      have d6 := hB6.cellAt 0 (v := .pointer none) rfl
      have z6 := hB6.free 0
      refine wpOp_shut (o := _) (by simp only [List.getElem?_toArray, List.getElem?_cons_zero, List.getElem?_cons_succ]; rfl) (fun K' hK => ?_)
      unfold anyFr
      go_simp
      have c6 : Chg (· = k6) W (W.setCell ⟨k6, 0, none⟩ (.pointer (some ⟨g.b, 0, none⟩))) := set_chg W _ _
      refine hK.out _ _ ⟨true, true, l2, l3, l4, true, true, true, true, l9, _, v7, v8, _, v16, v17, v18, v19, g, k6, k7, k8, rfl, rfl,
        ⟨h.same.setCell (.inr hk6) _, fun _ => ⟨rfl, hFg.chg c6 (fun k hk e => hFg.ne_blk hB6 (by decide) (by decide) (by decide) (by decide) (e ▸ hk)), hgn⟩, h.f1, h.f2, h.f3, h.f4, fun _ => ⟨rfl, hk6, hB6.set 0 _⟩,
         fun _ => ⟨(h.f6 rfl).1, (h.f6 rfl).2.1, _, c6.blk hB7 (hB7.ne hB6 (by decide))⟩, fun _ => ⟨(h.f7 rfl).1, (h.f7 rfl).2.1, _, c6.blk hB8 (hB8.ne hB6 (by decide))⟩, fun _ => ⟨rfl, rfl⟩⟩⟩
    · obtain ⟨e6, e1, e8, e0, _, e5, _, e7, _⟩ := hd
      subst hl e6 e1 e8 e0 e5 e7
      obtain ⟨rfl, hFg, hgn⟩ := h.f0 rfl
      obtain ⟨rfl, hk6, hB6⟩ := h.f5 rfl
      obtain ⟨kc, rfl⟩ := h.f1 rfl
      obtain ⟨rfl, hk7, x7, hB7⟩ := h.f6 rfl
      obtain ⟨x8, hB8⟩ := (h.f7 rfl).2.2
      have d7 := hB7.cellAt 0 (v := x7) rfl
      have z7 := hB7.free 0
      refine wpOp_shut (o := _) (by simp only [List.getElem?_toArray, List.getElem?_cons_zero, List.getElem?_cons_succ]; rfl) (fun K' hK => ?_)
      unfold anyFr
      go_simp
      have c7 : Chg (· = k7) W (W.setCell ⟨k7, 0, none⟩ (.pointer (some ⟨kc, 0, none⟩))) := set_chg W _ _
      refine hK.out _ _ ⟨true, true, l2, l3, l4, true, true, true, true, true, _, _, v8, _, _, v17, v18, v19, g, k6, k7, k8, rfl, rfl,
        ⟨h.same.setCell (.inr hk7) _, fun _ => ⟨rfl, hFg.chg c7 (fun k hk e => hFg.ne_blk hB7 (by decide) (by decide) (by decide) (by decide) (e ▸ hk)), hgn⟩, fun _ => ⟨_, rfl⟩, h.f2, h.f3, h.f4, fun _ => ⟨rfl, hk6, c7.blk hB6 (hB6.ne hB7 (by decide))⟩,
         fun _ => ⟨rfl, hk7, _, hB7.set 0 _⟩, fun _ => ⟨(h.f7 rfl).1, (h.f7 rfl).2.1, _, c7.blk hB8 (hB8.ne hB7 (by decide))⟩, fun _ => ⟨rfl, rfl⟩⟩⟩
    · exfalso
      apply hstop
      simp_all
  · rintro a W ⟨l0, l1, l2, l3, l4, l5, l6, l7, l8, l9, v6, v7, v8, v15, v16, v17, v18, v19, g, k6, k7, k8, hls, rfl, h⟩ fuel hfuel
    simp only [Array.mk.injEq, List.cons.injEq] at hls
    obtain ⟨rfl, rfl, rfl, rfl, rfl, rfl, rfl, rfl, rfl, rfl, _⟩ := hls
    obtain ⟨rfl, hFg, hgn⟩ := h.f0 rfl
    obtain ⟨rfl, hk6, hB6⟩ := h.f5 rfl
    obtain ⟨kc, rfl⟩ := h.f1 rfl
    obtain ⟨ke, rfl⟩ := h.f4 rfl
    obtain rfl := h.f2 rfl
    obtain rfl := h.f3 rfl
    obtain ⟨rfl, hk7, x7, hB7⟩ := h.f6 rfl
    obtain ⟨rfl, hk8, x8, hB8⟩ := h.f7 rfl
    have d8 := hB8.cellAt 0 (v := x8) rfl
    have z8 := hB8.free 0
    refine wpAny_next (i := 10) (n := 0) (o := _) (by kernel_rfl) (by simp only [List.getElem?_toArray, List.getElem?_cons_zero, List.getElem?_cons_succ]; rfl) (by kernel_rfl) hfuel (fun K' hK => ?_)
    unfold anyFr
    go_simp
    refine hK.out _ _ (fun fuel _ => wpAny_done (by kernel_rfl) ?_ fuel)
    have c8 : Chg (· = k8) W (W.setCell ⟨k8, 0, none⟩ (.slice (some ⟨ke, 0, none⟩) rs.length rs.length)) := set_chg W _ _
    have hF2 := hFg.chg c8 (fun k hk e => hFg.ne_blk hB8 (by decide) (by decide) (by decide) (by decide) (e ▸ hk))
    have hB2 := c8.blk hB6 (hB6.ne hB8 (by decide))
    have mW : Same w (W.setCell ⟨k8, 0, none⟩ (.slice (some ⟨ke, 0, none⟩) rs.length rs.length)) := h.same.setCell (.inr hk8) _
    generalize W.setCell ⟨k8, 0, none⟩ (.slice (some ⟨ke, 0, none⟩) rs.length rs.length) = W2 at *
    clear hFg hB6 hB7 hB8 d8 z8 c8 h hK K'
    go_wp2_with fail
    have hfar : ∀ q, Any rs q → q < w.heap.size := fun q ⟨r, hr, hq⟩ => by obtain ⟨j, hj, rfl⟩ := List.getElem_of_mem hr; exact (HF.out j hj).lt q hq
    have HN := Lib.hid hn
    clear hn
    refine (hang_f W2 _ rs fss HN.out _ _ (ClAny k6) (HL.out.same mW) HA.out (fun j hj => (HF.out j hj).chg mW (fun _ _ x => x)) (fun a m c e h => ⟨(HB.out a m c e h).1, Nat.lt_of_lt_of_le (HB.out a m c e h).2 mW.size⟩) (fun V hV => gives_any_c V k6 _ _) (fun _ _ _ _ _ _ _ h => h)).mono ?_
    rintro e w3 ⟨rfl, h3, c3⟩
    have kG3 := c3.blk hB2 (fun h => by have := hfar _ h; omega)
    have hF3 := hF2.chg c3 (fun k hk h => by have := hfar _ h; have := hgn _ hk; omega)
    have x0 := kG3.cellAt 0 (v := .pointer (some ⟨g.b, 0, none⟩)) rfl
    have H3 := Lib.hid h3
    have HM := Lib.hid mW
    have HG := Lib.hid hgn
    have HX := Lib.hid hF3
    clear hB2 hF2 hF3 h3 mW hgn
    go_wp2_with fail
    go_ret2
    exact ⟨g, k6, rfl, HX.out, kG3, HG.out, hk6, H3.out, (HM.out.mono (fun _ _ x => x.elim)).trans c3⟩
end Go.Proofs.YtgljjgmfhememaaGreatDoor
