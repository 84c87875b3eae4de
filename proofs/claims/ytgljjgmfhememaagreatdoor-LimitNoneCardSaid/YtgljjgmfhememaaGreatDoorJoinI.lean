/- join.All of open futures, and of none. Conditions: none. -/
import Derived.Test.YtgljjgmfhememaaGreatDoorJoinH
namespace Go.Proofs.YtgljjgmfhememaaGreatDoor
open Go Go.RowKit Go.Sort
set_option maxRecDepth 100000
set_option maxHeartbeats 1000000
def endz : Value := .agg #[.int .i64 0, .nilIface]
theorem endmake (W : World) (n : Nat) (hn : n ≤ 1000000) : (Instr.makeSlice 39 (.int .i64 (n : Int)) (.int .i64 (n : Int))).run Tryz.prog W = .ok (.slice (some ⟨W.heap.size, 0, none⟩) n n) (W.alloc (.cells (madeCells (Value.cells endz) (n * 2)) 135)) := by
  obtain ⟨i0, hi, hz0, hz1, hz2⟩ := info_parts (P := Tryz.prog) (e := 135) (z := endz) (size := 2) (bytes := 24) (by kernel_rfl)
  have := run_make (P := Tryz.prog) W 39 135 i0 endz Tryz.underlying39 hi hz0 .i64 .i64 n n (by omega) (Int.le_refl _) (by rw [hz2]; omega) (by omega)
  rw [hz1] at this
  simpa using this
/-- The frame of All while its region goes. -/
def allFr (p : Option Addr) (cap n : Nat) (v6 v10 v11 v12 v13 v14 v15 v16 v17 v18 : Value) : Act := ⟨#[.pointer none, .slice p n cap, undef, undef, .pointer none, .int .i64 0, v6, undef, .slice p n cap, .bool false, v10, v11, v12, v13, v14, v15, v16, v17, v18, undef, undef, undef, undef, undef, undef, undef, undef, undef, undef, undef, undef, undef, undef, undef, undef, undef, undef], []⟩
structure AllI (w W : World) (p : Option Addr) (cap n : Nat) (l0 l1 l2 l3 l4 l5 l6 l7 l8 l9 : Bool) (v6 v10 v11 v12 v13 v14 v15 v16 v17 v18 : Value) (g : FR) (kl ke kj kx : Nat) : Prop where
  same : Same w W
  f0 : l0 = true → v10 = .pointer (some ⟨g.b, 0, none⟩) ∧ FutF W g [] ∧ ∀ k, g.has k → w.heap.size ≤ k
  f1 : l1 = true → v11 = .slice p n cap
  f2 : l2 = true → v12 = .int .i64 n
  f3 : l3 = true → v13 = .pointer (some ⟨kl, 0, none⟩) ∧ CellAt W kl n ∧ w.heap.size ≤ kl ∧ ¬ g.has kl ∧ l0 = true
  f4 : l4 = true → v14 = .slice p n cap
  f5 : l5 = true → v15 = .int .i64 n
  f6 : l6 = true → v16 = .slice (some ⟨ke, 0, none⟩) n n ∧ Blk W ke (madeCells (Value.cells endz) (n * 2)) 135 ∧ w.heap.size ≤ ke
  f7 : l7 = true → v17 = .agg #[v10, v13, v16] ∧ l0 = true ∧ l3 = true ∧ l6 = true
  f8 : l8 = true → v18 = .pointer (some ⟨kj, 0, none⟩) ∧ Blk W kj #[v10, v13, v16] 41 ∧ w.heap.size ≤ kj ∧ l7 = true
  f9 : l9 = true → v6 = .pointer (some ⟨kx, 0, none⟩) ∧ Blk W kx #[.pointer none] 32 ∧ w.heap.size ≤ kx
theorem AllI.mono {w W W' : World} {p : Option Addr} {cap n : Nat} {l0 l1 l2 l3 l4 l5 l6 l7 l8 l9 : Bool} {v6 v10 v11 v12 v13 v14 v15 v16 v17 v18 : Value} {g : FR} {kl ke kj kx : Nat}
    (h : AllI w W p cap n l0 l1 l2 l3 l4 l5 l6 l7 l8 l9 v6 v10 v11 v12 v13 v14 v15 v16 v17 v18 g kl ke kj kx) (s : Same W W') : AllI w W' p cap n l0 l1 l2 l3 l4 l5 l6 l7 l8 l9 v6 v10 v11 v12 v13 v14 v15 v16 v17 v18 g kl ke kj kx :=
  ⟨h.same.trans s, fun e => ⟨(h.f0 e).1, (h.f0 e).2.1.chg s (fun _ _ x => x), (h.f0 e).2.2⟩, h.f1, h.f2, fun e => ⟨(h.f3 e).1, s.blk (h.f3 e).2.1 (fun x => x), (h.f3 e).2.2⟩, h.f4, h.f5,
    fun e => ⟨(h.f6 e).1, s.blk (h.f6 e).2.1 (fun x => x), (h.f6 e).2.2⟩, h.f7, fun e => ⟨(h.f8 e).1, s.blk (h.f8 e).2.1 (fun x => x), (h.f8 e).2.2⟩, fun e => ⟨(h.f9 e).1, s.blk (h.f9 e).2.1 (fun x => x), (h.f9 e).2.2⟩⟩
def AllInv (w : World) (p : Option Addr) (cap n : Nat) (listed : Array Bool) (a : Act) (W : World) : Prop :=
  ∃ l0 l1 l2 l3 l4 l5 l6 l7 l8 l9 v6 v10 v11 v12 v13 v14 v15 v16 v17 v18 g kl ke kj kx, listed = #[l0, l1, l2, l3, l4, l5, l6, l7, l8, l9, false] ∧ a = allFr p cap n v6 v10 v11 v12 v13 v14 v15 v16 v17 v18 ∧ AllI w W p cap n l0 l1 l2 l3 l4 l5 l6 l7 l8 l9 v6 v10 v11 v12 v13 v14 v15 v16 v17 v18 g kl ke kj kx
def allDeps : List (List Nat) := [[], [], [1], [2, 0], [], [4], [5, 5], [0, 3, 6], [7], [], [9, 8, 3, 0, 1, 2, 3, 4, 5, 6, 7, 8, 9]]
/-- What All's functions are: B: all their blocks are new. -/
def ClAll (B kx : Nat) (i : Nat) (G : Nat) (cg : Array Value) (W : World) : Prop := G = 57 ∧ ∃ ib, cg = #[.pointer (some ⟨kx, 0, none⟩), .pointer (some ⟨ib, 0, none⟩)] ∧ Blk W ib #[.int .i64 i] 3 ∧ B ≤ ib
theorem gives_all_c (w : World) (B kx : Nat) (hB : B ≤ w.heap.size) : GivesC w 56 #[.pointer (some ⟨kx, 0, none⟩)] (ClAll B kx) := by
  refine ⟨fun a w => by kernel_rfl, fun W hW i => ?_⟩
  show Calls Tryz.prog 56 #[.int .i64 i, .pointer (some ⟨kx, 0, none⟩)] W _
  have hs := hW.size
  go_enter Tryz.func56, Tryz.ntmps56
  go_wp2_with fail
  go_ret
  exact ⟨⟨_, _, rfl, rfl, _, rfl, Blk.new _ _ _, by omega⟩, (Chg.refl _ _).alloc _⟩
/-- What such a call leaves: of some (filled = false), of none. -/
structure JointAt (w0 w' : World) (n kl ke kj kx : Nat) (g : FR) : Prop where
  joint : Blk w' kj #[.pointer (some ⟨g.b, 0, none⟩), .pointer (some ⟨kl, 0, none⟩), .slice (some ⟨ke, 0, none⟩) n n] 41
  left : CellAt w' kl n
  ends : Blk w' ke (madeCells (Value.cells endz) (n * 2)) 135
  box : Blk w' kx #[.pointer (some ⟨kj, 0, none⟩)] 32
  nj : w0.heap.size ≤ kj
  nl : w0.heap.size ≤ kl
  ne : w0.heap.size ≤ ke
  nx : w0.heap.size ≤ kx
  ng : ∀ k, g.has k → w0.heap.size ≤ k
  apart : ¬ g.has kl
def AllDone (w : World) (rs : List FR) (fss : Nat → List (Nat × Array Value)) (e : Ending) (w' : World) : Prop :=
  ∃ (g : FR) (kl ke kj kx : Nat), e = .returned (.tuple #[.pointer (some ⟨kj, 0, none⟩), .int .i64 0]) ∧ JointAt w w' rs.length kl ke kj kx g ∧ FutF w' g [] ∧ (∀ j (hj : j < rs.length), More (fss j) (ClAll w.heap.size kx) w' rs[j] j) ∧ Chg (Any rs) w w'
def AllNone (w : World) (e : Ending) (w' : World) : Prop :=
  ∃ (g : FR) (kj : Nat) (left ends : Value) (st last v : Int) (pl : Array Value), e = .returned (.tuple #[.pointer (some ⟨kj, 0, none⟩), .int .i64 0]) ∧ Blk w' kj #[.pointer (some ⟨g.b, 0, none⟩), left, ends] 41 ∧ FutAt w' g.b g.s g.l g.lb g.hb g.pb st last (-1) pl v .nilIface ∧ 2 ≤ st ∧ (∀ k, g.has k → w.heap.size ≤ k) ∧ w.heap.size ≤ kj ∧ Same w w'
def AllPost (w : World) (rs : List FR) (fss : Nat → List (Nat × Array Value)) (e : Ending) (w' : World) : Prop := (1 ≤ rs.length → AllDone w rs fss e w') ∧ (rs.length = 0 → AllNone w e w')
theorem all_open (w : World) (l : Value) (rs : List FR) (fss : Nat → List (Nat × Array Value)) (hn : ∀ j, (fss j).length ≤ 2) (hl : Ptrs w l (rs.map fun r => some ⟨r.b, 0, none⟩)) (hap : Apart rs) (hf : ∀ j (hj : j < rs.length), FutF w rs[j] (fss j))
    (hlb : ∀ a m c, l = .slice (some a) m c → rs ≠ [] → ¬ Any rs a.block ∧ a.block < w.heap.size) :
    Calls Tryz.prog 11 #[.pointer none, l] w (AllPost w rs fss) := by
  have hj := join_none_no w l _ hl (fun p hp => by obtain ⟨r, hr, rfl⟩ := List.mem_map.1 hp; obtain ⟨j, hj, rfl⟩ := List.getElem_of_mem hr; exact (hf j hj).n.made)
  obtain ⟨p, cap, rfl⟩ := hl.slice
  simp only [List.length_map] at *
  have hlen : rs.length ≤ 1000000 := by have := hl.1; simpa using this
  have HL := Lib.hid hl
  have HA := Lib.hid hap
  have HF := Lib.hid hf
  have HB := Lib.hid hlb
  clear hl hap hf hlb
  go_enter Tryz.func11, Tryz.ntmps11
  go_wp2_with fail
  refine hj.mono ?_
  rintro e _ ⟨rfl, rfl⟩
  clear hj
  go_wp2_with fail
  refine wp_region_until allDeps #[true, true, true, true, true, true, true, true, true, true, false] (AllInv w p cap rs.length) (by kernel_rfl) (by kernel_rfl) (by kernel_rfl) ?_ ?_ ?_ ?_ ?_
  · exact ⟨false, false, false, false, false, false, false, false, false, false, undef, undef, undef, undef, undef, undef, undef, undef, undef, undef, ⟨0, 0, 0, 0, 0, 0⟩, 0, 0, 0, 0, rfl, rfl, ⟨(Chg.refl _ _).drew, fun e => by simp at e, fun e => by simp at e, fun e => by simp at e, fun e => by simp at e, fun e => by simp at e, fun e => by simp at e, fun e => by simp at e, fun e => by simp at e, fun e => by simp at e, fun e => by simp at e⟩⟩
  · rintro listed a W ⟨l0, l1, l2, l3, l4, l5, l6, l7, l8, l9, v6, v10, v11, v12, v13, v14, v15, v16, v17, v18, g, kl, ke, kj, kx, rfl, rfl, h⟩
    rfl
  · rintro listed a W ⟨l0, l1, l2, l3, l4, l5, l6, l7, l8, l9, v6, v10, v11, v12, v13, v14, v15, v16, v17, v18, g, kl, ke, kj, kx, rfl, rfl, h⟩ hx
    have := hx 10 (by decide)
    simp at this
  · rintro listed a W i ⟨l0, l1, l2, l3, l4, l5, l6, l7, l8, l9, v6, v10, v11, v12, v13, v14, v15, v16, v17, v18, g, kl, ke, kj, kx, rfl, rfl, h⟩ hstop hi hl hd
    have hi : i < 11 := hi
    rcases i with _ | _ | _ | _ | _ | _ | _ | _ | _ | _ | _ | i
    all_goals simp [allDeps] at hl hd
    · subst hl
      have n3 : l3 = false := by cases l3 with | false => rfl | true => have := h.f3 rfl; simp at this
      subst n3
      have n7 : l7 = false := by cases l7 with | false => rfl | true => have := h.f7 rfl; simp at this
      subst n7
      have n8 : l8 = false := by cases l8 with | false => rfl | true => have := h.f8 rfl; simp at this
      subst n8
      refine wpOp_shut (o := _) (by simp only [List.getElem?_toArray, List.getElem?_cons_zero]; rfl) (fun K' hK => ?_)
      unfold allFr
      go_simp
      refine (fut_new _).mono ?_
      rintro e W1 ⟨b, s, lf, lb, hb, pb, rfl, hF, g1, g2, g3, g4, g5, g6, s1⟩
      have h' := h.mono s1
      have hsz := h.same.size
      go_wp2_with fail
      exact hK.out _ _ ⟨true, l1, l2, false, l4, l5, l6, false, false, l9, v6, _, v11, v12, v13, v14, v15, v16, v17, v18, ⟨b, s, lf, lb, hb, pb⟩, kl, ke, kj, kx, rfl, rfl,
        ⟨h'.same, fun _ => ⟨rfl, .empty hF, fun k hk => by unfold FR.has at hk; simp only at hk; omega⟩, h'.f1, h'.f2, fun e => (by cases e), h'.f4, h'.f5, h'.f6, fun e => (by cases e), fun e => (by cases e), h'.f9⟩⟩
    · subst hl
      refine wpOp_shut (o := _) (by simp only [List.getElem?_toArray, List.getElem?_cons_zero, List.getElem?_cons_succ]; rfl) (fun K' hK => ?_)
      unfold allFr
      go_simp
      exact hK.out _ _ ⟨l0, true, l2, l3, l4, l5, l6, l7, l8, l9, v6, v10, _, v12, v13, v14, v15, v16, v17, v18, g, kl, ke, kj, kx, rfl, rfl,
        ⟨h.same, h.f0, fun _ => rfl, h.f2, h.f3, h.f4, h.f5, h.f6, h.f7, h.f8, h.f9⟩⟩
    · subst hl
      obtain rfl := h.f1 hd
      refine wpOp_shut (o := _) (by simp only [List.getElem?_toArray, List.getElem?_cons_zero, List.getElem?_cons_succ]; rfl) (fun K' hK => ?_)
      unfold allFr
      go_simp
      exact hK.out _ _ ⟨l0, l1, true, l3, l4, l5, l6, l7, l8, l9, v6, v10, _, _, v13, v14, v15, v16, v17, v18, g, kl, ke, kj, kx, rfl, rfl,
        ⟨h.same, h.f0, h.f1, fun _ => rfl, h.f3, h.f4, h.f5, h.f6, h.f7, h.f8, h.f9⟩⟩
    · obtain ⟨e2, e0⟩ := hd
      subst hl e2 e0
      obtain rfl := h.f2 rfl
      have hlt : ¬ g.has W.heap.size := fun hx => by have := (h.f0 rfl).2.1.lt _ hx; omega
      have n7 : l7 = false := by cases l7 with | false => rfl | true => have := h.f7 rfl; simp at this
      subst n7
      have n8 : l8 = false := by cases l8 with | false => rfl | true => have := h.f8 rfl; simp at this
      subst n8
      refine wpOp_shut (o := _) (by simp only [List.getElem?_toArray, List.getElem?_cons_zero, List.getElem?_cons_succ]; rfl) (fun K' hK => ?_)
      unfold allFr
      go_simp
      refine (cell_new _ _).mono ?_
      rintro e W1 ⟨rfl, rfl⟩
      have h' := h.mono ((Chg.refl _ W).alloc (.cells #[.int .i64 (rs.length : Int), .bool true, .int .i32 0, .int .u32 0, .chan none] 173))
      have hsz := h.same.size
      go_wp2_with fail
      exact hK.out _ _ ⟨true, l1, true, true, l4, l5, l6, false, false, l9, v6, v10, v11, _, _, v14, v15, v16, v17, v18, g, W.heap.size, ke, kj, kx, rfl, rfl,
        ⟨h'.same, h'.f0, h'.f1, h'.f2, fun _ => ⟨rfl, CellAt.new _ _, hsz, hlt, rfl⟩, h'.f4, h'.f5, h'.f6, fun e => (by cases e), fun e => (by cases e), h'.f9⟩⟩
    · subst hl
      refine wpOp_shut (o := _) (by simp only [List.getElem?_toArray, List.getElem?_cons_zero, List.getElem?_cons_succ]; rfl) (fun K' hK => ?_)
      unfold allFr
      go_simp
      exact hK.out _ _ ⟨l0, l1, l2, l3, true, l5, l6, l7, l8, l9, v6, v10, v11, v12, v13, _, v15, v16, v17, v18, g, kl, ke, kj, kx, rfl, rfl,
        ⟨h.same, h.f0, h.f1, h.f2, h.f3, fun _ => rfl, h.f5, h.f6, h.f7, h.f8, h.f9⟩⟩
    · subst hl
      obtain rfl := h.f4 hd
      refine wpOp_shut (o := _) (by simp only [List.getElem?_toArray, List.getElem?_cons_zero, List.getElem?_cons_succ]; rfl) (fun K' hK => ?_)
      unfold allFr
      go_simp
      exact hK.out _ _ ⟨l0, l1, l2, l3, l4, true, l6, l7, l8, l9, v6, v10, v11, v12, v13, _, _, v16, v17, v18, g, kl, ke, kj, kx, rfl, rfl,
        ⟨h.same, h.f0, h.f1, h.f2, h.f3, h.f4, fun _ => rfl, h.f6, h.f7, h.f8, h.f9⟩⟩
    · subst hl
      obtain rfl := h.f5 hd
      have hmk := endmake W rs.length (by omega)
      have n7 : l7 = false := by cases l7 with | false => rfl | true => have := h.f7 rfl; simp at this
      subst n7
      have n8 : l8 = false := by cases l8 with | false => rfl | true => have := h.f8 rfl; simp at this
      subst n8
      refine wpOp_shut (o := _) (by simp only [List.getElem?_toArray, List.getElem?_cons_zero, List.getElem?_cons_succ]; rfl) (fun K' hK => ?_)
      unfold allFr
      go_simp
      have h' := h.mono ((Chg.refl _ W).alloc (.cells (madeCells (Value.cells endz) (rs.length * 2)) 135))
      have hsz := h.same.size
      exact hK.out _ _ ⟨l0, l1, l2, l3, l4, l5, true, false, false, l9, v6, v10, v11, v12, v13, v14, _, _, v17, v18, g, kl, W.heap.size, kj, kx, rfl, rfl,
        ⟨h'.same, h'.f0, h'.f1, h'.f2, h'.f3, h'.f4, h'.f5, fun _ => ⟨rfl, Blk.new _ _ _, hsz⟩, fun e => (by cases e), fun e => (by cases e), h'.f9⟩⟩
    · obtain ⟨e0, e3, e6⟩ := hd
      subst hl e0 e3 e6
      have n8 : l8 = false := by cases l8 with | false => rfl | true => have := h.f8 rfl; simp at this
      subst n8
      obtain ⟨rfl, hFg, hgn⟩ := h.f0 rfl
      obtain ⟨rfl, hCl, hkl, hgl, _⟩ := h.f3 rfl
      obtain ⟨rfl, hBe, hke⟩ := h.f6 rfl
      refine wpOp_shut (o := _) (by simp only [List.getElem?_toArray, List.getElem?_cons_zero, List.getElem?_cons_succ]; rfl) (fun K' hK => ?_)
      unfold allFr
      go_simp
      exact hK.out _ _ ⟨true, l1, l2, true, l4, l5, true, true, false, l9, v6, _, v11, v12, _, v14, v15, _, _, v18, g, kl, ke, kj, kx, rfl, rfl,
        ⟨h.same, h.f0, h.f1, h.f2, h.f3, h.f4, h.f5, h.f6, fun _ => ⟨rfl, rfl, rfl, rfl⟩, fun e => (by cases e), h.f9⟩⟩
    · subst hl hd
      obtain ⟨rfl, e0, e3, e6⟩ := h.f7 rfl
      subst e0 e3 e6
      obtain ⟨rfl, hFg, hgn⟩ := h.f0 rfl
      obtain ⟨rfl, hCl, hkl, hgl, _⟩ := h.f3 rfl
      obtain ⟨rfl, hBe, hke⟩ := h.f6 rfl
      refine wpOp_shut (o := _) (by simp only [List.getElem?_toArray, List.getElem?_cons_zero, List.getElem?_cons_succ]; rfl) (fun K' hK => ?_)
      unfold allFr
      go_simp
      have h' := h.mono ((Chg.refl _ W).alloc (.cells #[.pointer (some ⟨g.b, 0, none⟩), .pointer (some ⟨kl, 0, none⟩), .slice (some ⟨ke, 0, none⟩) rs.length rs.length] 41))
      have hsz := h.same.size
      exact hK.out _ _ ⟨true, l1, l2, true, l4, l5, true, true, true, l9, v6, _, v11, v12, _, v14, v15, _, _, _, g, kl, ke, W.heap.size, kx, rfl, rfl,
        ⟨h'.same, h'.f0, h'.f1, h'.f2, h'.f3, h'.f4, h'.f5, h'.f6, h'.f7, fun _ => ⟨rfl, Blk.new _ _ _, hsz, rfl⟩, h'.f9⟩⟩
    · subst hl
      refine wpOp_shut (o := _) (by simp only [List.getElem?_toArray, List.getElem?_cons_zero, List.getElem?_cons_succ]; rfl) (fun K' hK => ?_)
      unfold allFr
      go_simp
      have h' := h.mono ((Chg.refl _ W).alloc (.cells #[.pointer none] 32))
      have hsz := h.same.size
      exact hK.out _ _ ⟨l0, l1, l2, l3, l4, l5, l6, l7, l8, true, _, v10, v11, v12, v13, v14, v15, v16, v17, v18, g, kl, ke, kj, W.heap.size, rfl, rfl,
        ⟨h'.same, h'.f0, h'.f1, h'.f2, h'.f3, h'.f4, h'.f5, h'.f6, h'.f7, h'.f8, fun _ => ⟨rfl, Blk.new _ _ _, hsz⟩⟩⟩
    · exfalso
      apply hstop
      simp_all
  · rintro a W ⟨l0, l1, l2, l3, l4, l5, l6, l7, l8, l9, v6, v10, v11, v12, v13, v14, v15, v16, v17, v18, g, kl, ke, kj, kx, hls, rfl, h⟩ fuel hfuel
    simp only [Array.mk.injEq, List.cons.injEq] at hls
    obtain ⟨rfl, rfl, rfl, rfl, rfl, rfl, rfl, rfl, rfl, rfl, _⟩ := hls
    obtain ⟨rfl, hFg, hgn⟩ := h.f0 rfl
    obtain rfl := h.f1 rfl
    obtain rfl := h.f2 rfl
    obtain ⟨rfl, hCl, hkl, hgl, _⟩ := h.f3 rfl
    obtain rfl := h.f4 rfl
    obtain rfl := h.f5 rfl
    obtain ⟨rfl, hBe, hke⟩ := h.f6 rfl
    obtain ⟨rfl, _⟩ := h.f7 rfl
    obtain ⟨rfl, hBj, hkj, _⟩ := h.f8 rfl
    obtain ⟨rfl, hBx, hkx⟩ := h.f9 rfl
    have d8 := hBx.cellAt 0 (v := .pointer none) rfl
    have z8 := hBx.free 0
    refine wpAny_next (i := 10) (n := 0) (o := _) (by kernel_rfl) (by simp only [List.getElem?_toArray, List.getElem?_cons_zero, List.getElem?_cons_succ]; rfl) (by kernel_rfl) hfuel (fun K' hK => ?_)
    unfold allFr
    go_simp
    refine hK.out _ _ (fun fuel _ => wpAny_done (by kernel_rfl) ?_ fuel)
    have c8 : Chg (· = kx) W (W.setCell ⟨kx, 0, none⟩ (.pointer (some ⟨kj, 0, none⟩))) := set_chg W _ _
    have hF2 := hFg.chg c8 (fun k hk e => hFg.ne_blk hBx (by decide) (by decide) (by decide) (by decide) (e ▸ hk))
    have hJ : JointAt w (W.setCell ⟨kx, 0, none⟩ (.pointer (some ⟨kj, 0, none⟩))) rs.length kl ke kj kx g := ⟨c8.blk hBj (hBj.ne hBx (by decide)), hCl.chg c8 (Blk.ne hCl hBx (by decide)), c8.blk hBe (hBe.ne hBx (by decide)), hBx.set 0 _, hkj, hkl, hke, hkx, hgn, hgl⟩
    have mW : Same w (W.setCell ⟨kx, 0, none⟩ (.pointer (some ⟨kj, 0, none⟩))) := h.same.setCell (.inr hkx) _
    generalize W.setCell ⟨kx, 0, none⟩ (.pointer (some ⟨kj, 0, none⟩)) = W2 at *
    clear hFg hBx hBj hBe hCl d8 z8 c8 h hK K'
    have hfar : ∀ q, Any rs q → q < w.heap.size := fun q ⟨r, hr, hq⟩ => by obtain ⟨j, hj, rfl⟩ := List.getElem_of_mem hr; exact (HF.out j hj).lt q hq
    have HN := Lib.hid hn
    have HM := Lib.hid mW
    have HJ := Lib.hid hJ
    have HG := Lib.hid hgn
    have HX := Lib.hid hF2
    have HW := Lib.hid hfar
    have x0 := hJ.box.cellAt 0 (v := .pointer (some ⟨kj, 0, none⟩)) rfl
    have x1 := hJ.joint.cellAt 0 (v := .pointer (some ⟨g.b, 0, none⟩)) rfl
    clear hn mW hJ hgn hF2 hfar
    by_cases hz : rs.length = 0
    · have HZ := Lib.hid hz
      have hne : ((rs.length : Int) == 0) = true := beq_iff_eq.2 (by omega)
      clear hz
      go_wp2_with fail
      have hnot : ∀ k, w.heap.size ≤ k → ¬ k < w.heap.size := fun k hk => by omega
      obtain ⟨pl, hFA, _⟩ := HX.out
      have hFA' : FutAt W2 g.b g.s g.l g.lb g.hb g.pb 0 0 0 pl 0 .nilIface := hFA
      have HA2 := Lib.hid hFA
      clear hFA
      refine (fut_complete_none 0 hFA').mono ?_
      rintro e w3 ⟨rfl, h3, c3⟩
      have hJ := HJ.out
      have hj3 : Blk w3 kj #[.pointer (some ⟨g.b, 0, none⟩), .pointer (some ⟨kl, 0, none⟩), .slice (some ⟨ke, 0, none⟩) rs.length rs.length] 41 := c3.blk hJ.joint (by
        rintro (e | e | e)
        · exact absurd e.symm (hFA'.blk.ne hJ.joint (by decide))
        · exact absurd e.symm (Blk.ne hFA'.cell hJ.joint (by decide))
        · exact absurd e.symm (Blk.ne hFA'.list.chead hJ.joint (by decide)))
      have hx3 : Blk w3 kx #[.pointer (some ⟨kj, 0, none⟩)] 32 := c3.blk hJ.box (by
        rintro (e | e | e)
        · exact absurd e.symm (hFA'.blk.ne hJ.box (by decide))
        · exact absurd e.symm (Blk.ne hFA'.cell hJ.box (by decide))
        · exact absurd e.symm (Blk.ne hFA'.list.chead hJ.box (by decide)))
      have hnj := hJ.nj
      have m3 : Same w w3 := HM.out.trans' c3 (fun q hq e => by
        have g1 := HG.out g.b (.inl rfl)
        have g2 := HG.out g.s (.inr (.inl rfl))
        have g3 := HG.out g.hb (.inr (.inr (.inr (.inr (.inl rfl)))))
        omega)
      have y0 := hx3.cellAt 0 (v := .pointer (some ⟨kj, 0, none⟩)) rfl
      have H3 := Lib.hid h3
      clear x0 x1 h3 hFA' hJ hx3 c3
      go_wp2_with fail
      go_ret2
      exact ⟨fun h => by have := HZ.out; omega, fun _ => ⟨g, kj, _, _, 2, _, _, _, rfl, hj3, H3.out, by omega, HG.out, hnj, m3⟩⟩
    · have HZ := Lib.hid hz
      have hne : ((rs.length : Int) == 0) = false := beq_eq_false_iff_ne.2 (by omega)
      clear hz
      go_wp2_with fail
      refine (hang_f W2 _ rs fss HN.out _ _ (ClAll w.heap.size kx) (HL.out.same HM.out) HA.out (fun j hj => (HF.out j hj).chg HM.out (fun _ _ x => x)) (fun a m c e h => ⟨(HB.out a m c e h).1, Nat.lt_of_lt_of_le (HB.out a m c e h).2 HM.out.size⟩) (fun V hV => gives_all_c V _ kx (Nat.le_trans HM.out.size hV.size)) (fun j G cg V V' hV hc ⟨h1, ib, h2, h3, h4⟩ => ⟨h1, ib, h2, hc.blk h3 (fun hx => by have := HW.out _ hx; omega), h4⟩)).mono ?_
      rintro e w3 ⟨rfl, h3, c3⟩
      have hnot : ∀ k, w.heap.size ≤ k → ¬ Any rs k := fun k hk hx => by have := HW.out _ hx; omega
      have hF3 := HX.out.chg c3 (fun k hk h => hnot _ (HG.out _ hk) h)
      have hJ := HJ.out
      have hJ3 : JointAt w w3 rs.length kl ke kj kx g := ⟨c3.blk hJ.joint (hnot _ hJ.nj), hJ.left.chg c3 (hnot _ hJ.nl), c3.blk hJ.ends (hnot _ hJ.ne), c3.blk hJ.box (hnot _ hJ.nx), hJ.nj, hJ.nl, hJ.ne, hJ.nx, hJ.ng, hJ.apart⟩
      have y0 := hJ3.box.cellAt 0 (v := .pointer (some ⟨kj, 0, none⟩)) rfl
      have H3 := Lib.hid h3
      have HX3 := Lib.hid hF3
      have HJ3 := Lib.hid hJ3
      clear x0 x1 h3 hF3 hJ hJ3 hnot
      go_wp2_with fail
      go_ret2
      exact ⟨fun _ => ⟨g, kl, ke, kj, kx, rfl, HJ3.out, HX3.out, H3.out, (HM.out.mono (fun _ _ x => x.elim)).trans c3⟩, fun e => absurd e HZ.out⟩
end Go.Proofs.YtgljjgmfhememaaGreatDoor
