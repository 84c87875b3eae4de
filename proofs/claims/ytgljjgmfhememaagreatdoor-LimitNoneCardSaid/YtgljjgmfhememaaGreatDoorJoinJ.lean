/- join.Quorum of open futures, told in full. Conditions: none. -/
import Derived.Test.YtgljjgmfhememaaGreatDoorJoinI
namespace Go.Proofs.YtgljjgmfhememaaGreatDoor
open Go Go.RowKit Go.Sort
set_option maxRecDepth 100000
set_option maxHeartbeats 1000000
/-- What Quorum's functions are. -/
def ClQ (kgd kw kg : Nat) (_ : Nat) (G : Nat) (cg : Array Value) (_ : World) : Prop := G = 63 ∧ ∃ x y, cg = #[.pointer (some ⟨kgd, 0, none⟩), .pointer (some ⟨kw, 0, none⟩), .pointer (some ⟨kg, 0, none⟩), x, y]
theorem gives_quorum_c (w : World) (kgd kw kg : Nat) (x y : Value) : GivesC w 62 #[.pointer (some ⟨kgd, 0, none⟩), .pointer (some ⟨kw, 0, none⟩), .pointer (some ⟨kg, 0, none⟩), x, y] (ClQ kgd kw kg) := by
  refine ⟨fun a w => by kernel_rfl, fun W hW i => ?_⟩
  show Calls Tryz.prog 62 #[.int .i64 i, .pointer (some ⟨kgd, 0, none⟩), .pointer (some ⟨kw, 0, none⟩), .pointer (some ⟨kg, 0, none⟩), x, y] W _
  go_enter Tryz.func62, Tryz.ntmps62
  go_wp2_with fail
  go_ret
  exact ⟨⟨_, _, rfl, rfl, _, _, rfl⟩, Chg.refl _ _⟩
/-- The cells and boxes of a quorum: all at B or above. -/
structure QAt (B : Nat) (W : World) (k : Int) (b gd kg kgd kw : Nat) : Prop where
  good : CellAt W gd 0
  box : Blk W kg #[.pointer (some ⟨b, 0, none⟩)] 24
  gbox : Blk W kgd #[.pointer (some ⟨gd, 0, none⟩)] 26
  want : Blk W kw #[.int .i64 k] 2
  n1 : B ≤ gd
  n2 : B ≤ kg
  n3 : B ≤ kgd
  n4 : B ≤ kw
theorem QAt.chg {B : Nat} {W W' : World} {k : Int} {b gd kg kgd kw : Nat} {S : Nat → Prop} (h : QAt B W k b gd kg kgd kw) (hc : Chg S W W') (hn : ∀ k, B ≤ k → ¬ S k) : QAt B W' k b gd kg kgd kw :=
  ⟨h.good.chg hc (hn _ h.n1), hc.blk h.box (hn _ h.n2), hc.blk h.gbox (hn _ h.n3), hc.blk h.want (hn _ h.n4), h.n1, h.n2, h.n3, h.n4⟩
theorem QAt.base {B B' : Nat} {W : World} {k : Int} {b gd kg kgd kw : Nat} (h : QAt B W k b gd kg kgd kw) (hb : B' ≤ B) : QAt B' W k b gd kg kgd kw :=
  ⟨h.good, h.box, h.gbox, h.want, Nat.le_trans hb h.n1, Nat.le_trans hb h.n2, Nat.le_trans hb h.n3, Nat.le_trans hb h.n4⟩
theorem qAt_of (w1 : World) (b : Nat) (k m : Int) : QAt w1.heap.size (((((((w1.alloc (.cells #[.int .i64 0, .bool true, .int .i32 0, .int .u32 0, .chan none] 173)).alloc (.cells #[.int .i64 0, .bool true, .int .i32 0, .int .u32 0, .chan none] 173)).alloc (.cells #[.pointer (some ⟨b, 0, none⟩)] 24)).alloc (.cells #[.pointer (some ⟨w1.heap.size, 0, none⟩)] 26)).alloc (.cells #[.pointer (some ⟨w1.heap.size + 1, 0, none⟩)] 26)).alloc (.cells #[.int .i64 k] 2)).alloc (.cells #[.int .i64 m] 2)) k b w1.heap.size (w1.heap.size + 1 + 1) (w1.heap.size + 1 + 1 + 1) (w1.heap.size + 1 + 1 + 1 + 1 + 1) :=
  ⟨((((((CellAt.new _ _).al _).al _).al _).al _).al _).al _, ((((Blk.neww (by simp) _ _).alloc _).alloc _).alloc _).alloc _, (((Blk.neww (by simp) _ _).alloc _).alloc _).alloc _, (Blk.neww (by simp) _ _).alloc _, by omega, by omega, by omega, by omega⟩
/-- What such a call leaves. -/
def QDone (w : World) (rs : List FR) (fss : Nat → List (Nat × Array Value)) (k : Int) (e : Ending) (w' : World) : Prop :=
  ∃ (g : FR) (gd kg kgd kw : Nat), e = .returned (.tuple #[.pointer (some ⟨g.b, 0, none⟩), .int .i64 0]) ∧ QAt w.heap.size w' k g.b gd kg kgd kw ∧ FutF w' g [] ∧ (∀ q, g.has q → w.heap.size ≤ q) ∧ ¬ g.has gd ∧
    (∀ j (hj : j < rs.length), More (fss j) (ClQ kgd kw kg) w' rs[j] j) ∧ Chg (Any rs) w w'
theorem quorum_f (w : World) (k : Int) (l : Value) (rs : List FR) (fss : Nat → List (Nat × Array Value)) (hn : ∀ j, (fss j).length ≤ 2) (hl : Ptrs w l (rs.map fun r => some ⟨r.b, 0, none⟩)) (hap : Apart rs) (hf : ∀ j (hj : j < rs.length), FutF w rs[j] (fss j))
    (hlb : ∀ a m c, l = .slice (some a) m c → rs ≠ [] → ¬ Any rs a.block ∧ a.block < w.heap.size) (hk1 : 1 ≤ k) (hk2 : k ≤ rs.length) :
    Calls Tryz.prog 13 #[.pointer none, .int .i64 k, l] w (QDone w rs fss k) := by
  have hj := join_none_no w l _ hl (fun p hp => by obtain ⟨r, hr, rfl⟩ := List.mem_map.1 hp; obtain ⟨j, hj, rfl⟩ := List.getElem_of_mem hr; exact (hf j hj).n.made)
  obtain ⟨p, cap, rfl⟩ := hl.slice
  simp only [List.length_map] at *
  have hlen : rs.length ≤ 1000000 := by have := hl.1; simpa using this
  have HL := Lib.hid hl
  have HA := Lib.hid hap
  have HF := Lib.hid hf
  have HB := Lib.hid hlb
  clear hl hap hf hlb
  have hw1 : IntKind.i64.wrap ((rs.length : Int) - k) = rs.length - k := by rw [IntKind.wrap_i64]; omega
  have hw2 : IntKind.i64.wrap ((rs.length : Int) - k + 1) = rs.length - k + 1 := by rw [IntKind.wrap_i64]; omega
  go_enter Tryz.func13, Tryz.ntmps13
  go_wp2_with fail
  refine hj.mono ?_
  rintro e _ ⟨rfl, rfl⟩
  clear hj
  go_wp2_with fail
  refine (fut_new w).mono ?_
  rintro e w1 ⟨b, s, lf, lb, hb, pb, rfl, hF, g1, g2, g3, g4, g5, g6, s1⟩
  go_wp2_with fail
  refine (cell_new _ _).mono ?_
  rintro e w2 ⟨rfl, rfl⟩
  go_wp2_with fail
  refine (cell_new _ _).mono ?_
  rintro e w2 ⟨rfl, rfl⟩
  go_wp2_with fail
  have sW : Same w1 (((((((w1.alloc (.cells #[.int .i64 0, .bool true, .int .i32 0, .int .u32 0, .chan none] 173)).alloc (.cells #[.int .i64 0, .bool true, .int .i32 0, .int .u32 0, .chan none] 173)).alloc (.cells #[.pointer (some ⟨b, 0, none⟩)] 24)).alloc (.cells #[.pointer (some ⟨w1.heap.size, 0, none⟩)] 26)).alloc (.cells #[.pointer (some ⟨w1.heap.size + 1, 0, none⟩)] 26)).alloc (.cells #[.int .i64 k] 2)).alloc (.cells #[.int .i64 (rs.length - k + 1)] 2)) := (((((((Chg.refl _ _).alloc _).alloc _).alloc _).alloc _).alloc _).alloc _).alloc _
  have qW : QAt w1.heap.size (((((((w1.alloc (.cells #[.int .i64 0, .bool true, .int .i32 0, .int .u32 0, .chan none] 173)).alloc (.cells #[.int .i64 0, .bool true, .int .i32 0, .int .u32 0, .chan none] 173)).alloc (.cells #[.pointer (some ⟨b, 0, none⟩)] 24)).alloc (.cells #[.pointer (some ⟨w1.heap.size, 0, none⟩)] 26)).alloc (.cells #[.pointer (some ⟨w1.heap.size + 1, 0, none⟩)] 26)).alloc (.cells #[.int .i64 k] 2)).alloc (.cells #[.int .i64 (rs.length - k + 1)] 2)) k b w1.heap.size (w1.heap.size + 1 + 1) (w1.heap.size + 1 + 1 + 1) (w1.heap.size + 1 + 1 + 1 + 1 + 1) := qAt_of _ _ _ _
  have hsz := s1.size
  generalize (((((((w1.alloc (.cells #[.int .i64 0, .bool true, .int .i32 0, .int .u32 0, .chan none] 173)).alloc (.cells #[.int .i64 0, .bool true, .int .i32 0, .int .u32 0, .chan none] 173)).alloc (.cells #[.pointer (some ⟨b, 0, none⟩)] 24)).alloc (.cells #[.pointer (some ⟨w1.heap.size, 0, none⟩)] 26)).alloc (.cells #[.pointer (some ⟨w1.heap.size + 1, 0, none⟩)] 26)).alloc (.cells #[.int .i64 k] 2)).alloc (.cells #[.int .i64 (rs.length - k + 1)] 2)) = W at *
  generalize ek : w1.heap.size + 1 + 1 + 1 + 1 + 1 = kw at *
  generalize eg : w1.heap.size + 1 + 1 + 1 = kgd at *
  generalize e6 : w1.heap.size + 1 + 1 = kg at *
  have mW := s1.trans sW
  have hgl : ∀ q, (FR.mk b s lf lb hb pb).has q → q < w1.heap.size := (FutF.empty hF).lt
  have hgn : ∀ q, (FR.mk b s lf lb hb pb).has q → w.heap.size ≤ q := fun q hq => by unfold FR.has at hq; simp only at hq; omega
  have hFW : FutF W ⟨b, s, lf, lb, hb, pb⟩ [] := (FutF.empty hF).chg sW (fun _ _ x => x)
  have hfar : ∀ q, Any rs q → q < w.heap.size := fun q ⟨r, hr, hq⟩ => by obtain ⟨j, hj, rfl⟩ := List.getElem_of_mem hr; exact (HF.out j hj).lt q hq
  have HN := Lib.hid hn
  have HM := Lib.hid mW
  have HG := Lib.hid hgn
  have HLT := Lib.hid hgl
  have HW := Lib.hid hfar
  clear hn mW hgn hgl hF ek eg e6
  refine (hang_f W _ rs fss HN.out _ _ (ClQ kgd kw kg) (HL.out.same HM.out) HA.out (fun j hj => (HF.out j hj).chg HM.out (fun _ _ x => x)) (fun a m c e h => ⟨(HB.out a m c e h).1, Nat.lt_of_lt_of_le (HB.out a m c e h).2 HM.out.size⟩) (fun V hV => gives_quorum_c V kgd kw kg _ _) (fun _ _ _ _ _ _ _ h => h)).mono ?_
  rintro e w3 ⟨rfl, h3, c3⟩
  have hnot : ∀ k, w1.heap.size ≤ k → ¬ Any rs k := fun k hk h => by have := hfar _ h; omega
  have q3 := qW.chg c3 hnot
  have x0 := q3.box.cellAt 0 (v := .pointer (some ⟨b, 0, none⟩)) rfl
  have hF3 := hFW.chg c3 (fun k hk h => by have := hfar _ h; have := HG.out _ hk; omega)
  have H3 := Lib.hid h3
  have HQ := Lib.hid q3
  have HX := Lib.hid hF3
  clear qW hFW h3 q3 hF3 hnot hfar
  go_wp2_with fail
  go_ret2
  exact ⟨⟨b, s, lf, lb, hb, pb⟩, w1.heap.size, kg, kgd, kw, rfl, (HQ.out.base hsz), HX.out, HG.out, fun hx => by have := HLT.out _ hx; omega, H3.out, (HM.out.mono (fun _ _ x => x.elim)).trans c3⟩
end Go.Proofs.YtgljjgmfhememaaGreatDoor
