/- What hang is given by All, Any, Quorum. Conditions: none. -/
import Derived.Test.YtgljjgmfhememaaGreatDoorJoinD
namespace Go.Proofs.YtgljjgmfhememaaGreatDoor
open Go Go.RowKit Go.Sort
set_option maxRecDepth 100000
set_option maxHeartbeats 1000000
theorem gives_all (w : World) (q : Value) : Gives w 56 #[q] := by
  refine ⟨fun a w => by kernel_rfl, fun W hW i => ?_⟩
  show Calls Tryz.prog 56 #[.int .i64 i, q] W _
  go_enter Tryz.func56, Tryz.ntmps56
  go_wp2_with fail
  go_ret
  exact ⟨⟨_, _, rfl⟩, (Chg.refl _ _).alloc _⟩
theorem gives_any (w : World) (q1 q2 q3 : Value) : Gives w 59 #[q1, q2, q3] := by
  refine ⟨fun a w => by kernel_rfl, fun W hW i => ?_⟩
  show Calls Tryz.prog 59 #[.int .i64 i, q1, q2, q3] W _
  go_enter Tryz.func59, Tryz.ntmps59
  go_wp2_with fail
  go_ret
  exact ⟨⟨_, _, rfl⟩, (Chg.refl _ _).alloc _⟩
theorem gives_quorum (w : World) (q1 q2 q3 q4 q5 : Value) : Gives w 62 #[q1, q2, q3, q4, q5] := by
  refine ⟨fun a w => by kernel_rfl, fun W hW i => ?_⟩
  show Calls Tryz.prog 62 #[.int .i64 i, q1, q2, q3, q4, q5] W _
  go_enter Tryz.func62, Tryz.ntmps62
  go_wp2_with fail
  go_ret
  exact ⟨⟨_, _, rfl⟩, Chg.refl _ _⟩
theorem Ptrs.same {w w' : World} {l : Value} {ps : List (Option Addr)} (h : Ptrs w l ps) (hs : Same w w') : Ptrs w' l ps := by
  obtain ⟨h1, h2⟩ := h
  refine ⟨h1, ?_⟩
  rcases h2 with h2 | ⟨b, off, cap, rfl, hc⟩
  · exact .inl h2
  · exact .inr ⟨b, off, cap, rfl, fun j hj => (hs.cell (p := ⟨b, off + j, none⟩) (World.block_lt_of_cell? w ⟨b, off + j, none⟩ (hc j hj)) (fun x => x)).trans (hc j hj)⟩
/-- What such a call leaves: a new open future; one function more on each. -/
def Hung (w : World) (rs : List FR) (n : Nat) (e : Ending) (w' : World) : Prop :=
  ∃ g : FR, e = .returned (.tuple #[.pointer (some ⟨g.b, 0, none⟩), .int .i64 0]) ∧ FutN w' g 0 ∧ (∀ k, g.has k → w.heap.size ≤ k) ∧ (∀ r ∈ rs, FutN w' r (n + 1)) ∧ Chg (Any rs) w w'
theorem FR.lt {w : World} {r : FR} {n : Nat} (h : FutN w r n) : ∀ k, r.has k → k < w.heap.size := by
  obtain ⟨pl, h⟩ := h
  have := h.lt
  intro k hk
  unfold FR.has at hk
  omega
theorem quorum_open (w : World) (k : Int) (l : Value) (rs : List FR) (n : Nat) (hn : n ≤ 2) (hl : Ptrs w l (rs.map fun r => some ⟨r.b, 0, none⟩)) (hap : Apart rs) (hf : ∀ r ∈ rs, FutN w r n)
    (hlb : ∀ a m c, l = .slice (some a) m c → rs ≠ [] → ¬ Any rs a.block ∧ a.block < w.heap.size) (hk1 : 1 ≤ k) (hk2 : k ≤ rs.length) :
    Calls Tryz.prog 13 #[.pointer none, .int .i64 k, l] w (Hung w rs n) := by
  have hj := join_none_no w l _ hl (fun p hp => by obtain ⟨r, hr, rfl⟩ := List.mem_map.1 hp; exact (hf r hr).made)
  obtain ⟨p, cap, rfl⟩ := hl.slice
  simp only [List.length_map] at *
  have hlen : rs.length ≤ 1000000 := by have := hl.1; simpa using this
  have HL := Lib.hid hl
  have HA := Lib.hid hap
  have HF := Lib.hid hf
  have HB := Lib.hid hlb
  clear hl hap hf hlb
  have hw1 : IntKind.i64.wrap ((rs.length : Int) - k) = rs.length - k := by rw [IntKind.wrap_i64]; omega
  have hw2 : IntKind.i64.wrap ((rs.length : Int) - k + 1) = rs.length - k + 1 := by rw [IntKind.wrap_i64]; omega
  go_enter Tryz.func13, Tryz.ntmps13
  go_wp2_with fail
  refine hj.mono ?_
  rintro e _ ⟨rfl, rfl⟩
  clear hj
  go_wp2_with fail
  refine (fut_new w).mono ?_
  rintro e w1 ⟨b, s, lf, lb, hb, pb, rfl, hF, g1, g2, g3, g4, g5, g6, s1⟩
  go_wp2_with fail
  refine (cell_new _ _).mono ?_
  rintro e w2 ⟨rfl, rfl⟩
  go_wp2_with fail
  refine (cell_new _ _).mono ?_
  rintro e w2 ⟨rfl, rfl⟩
  go_wp2_with fail
  have sW : Same w1 (((((((w1.alloc (.cells #[.int .i64 0, .bool true, .int .i32 0, .int .u32 0, .chan none] 173)).alloc (.cells #[.int .i64 0, .bool true, .int .i32 0, .int .u32 0, .chan none] 173)).alloc (.cells #[.pointer (some ⟨b, 0, none⟩)] 24)).alloc (.cells #[.pointer (some ⟨w1.heap.size, 0, none⟩)] 26)).alloc (.cells #[.pointer (some ⟨w1.heap.size + 1, 0, none⟩)] 26)).alloc (.cells #[.int .i64 k] 2)).alloc (.cells #[.int .i64 (rs.length - k + 1)] 2)) := (((((((Chg.refl _ _).alloc _).alloc _).alloc _).alloc _).alloc _).alloc _).alloc _
  have kG : Blk (((((((w1.alloc (.cells #[.int .i64 0, .bool true, .int .i32 0, .int .u32 0, .chan none] 173)).alloc (.cells #[.int .i64 0, .bool true, .int .i32 0, .int .u32 0, .chan none] 173)).alloc (.cells #[.pointer (some ⟨b, 0, none⟩)] 24)).alloc (.cells #[.pointer (some ⟨w1.heap.size, 0, none⟩)] 26)).alloc (.cells #[.pointer (some ⟨w1.heap.size + 1, 0, none⟩)] 26)).alloc (.cells #[.int .i64 k] 2)).alloc (.cells #[.int .i64 (rs.length - k + 1)] 2)) (w1.heap.size + 1 + 1) #[.pointer (some ⟨b, 0, none⟩)] 24 := ((((Blk.neww (by simp) _ _).alloc _).alloc _).alloc _).alloc _
  generalize (((((((w1.alloc (.cells #[.int .i64 0, .bool true, .int .i32 0, .int .u32 0, .chan none] 173)).alloc (.cells #[.int .i64 0, .bool true, .int .i32 0, .int .u32 0, .chan none] 173)).alloc (.cells #[.pointer (some ⟨b, 0, none⟩)] 24)).alloc (.cells #[.pointer (some ⟨w1.heap.size, 0, none⟩)] 26)).alloc (.cells #[.pointer (some ⟨w1.heap.size + 1, 0, none⟩)] 26)).alloc (.cells #[.int .i64 k] 2)).alloc (.cells #[.int .i64 (rs.length - k + 1)] 2)) = W at *
  have mW := s1.trans sW
  have hsz := s1.size
  have hFW : FutN W ⟨b, s, lf, lb, hb, pb⟩ 0 := ⟨_, hF.chg sW (fun x => x) (fun x => x) (fun x => x) (fun x => x) (fun x => x) (fun x => x)⟩
  have hfar : ∀ q, Any rs q → q < w.heap.size := fun q ⟨r, hr, hq⟩ => FR.lt (HF.out r hr) q hq
  refine (hang_ok W _ rs n hn _ _ (HL.out.same mW) HA.out (fun r hr => (HF.out r hr).chg mW (fun _ _ x => x)) (fun a m c e h => ⟨(HB.out a m c e h).1, Nat.lt_of_lt_of_le (HB.out a m c e h).2 mW.size⟩) (fun V hV => gives_quorum V _ _ _ _ _)).mono ?_
  rintro e w3 ⟨rfl, h3, c3⟩
  have kG3 := c3.blk kG (fun h => by have := hfar _ h; omega)
  have x0 := kG3.cellAt 0 (v := .pointer (some ⟨b, 0, none⟩)) rfl
  clear kG hFW
  go_wp2_with fail
  go_ret2
  refine ⟨⟨b, s, lf, lb, hb, pb⟩, rfl, ?_, ?_, h3, (mW.mono (fun _ _ x => x.elim)).trans c3⟩
  · exact ⟨_, (hF.chg sW (fun x => x) (fun x => x) (fun x => x) (fun x => x) (fun x => x) (fun x => x)).chg c3 (fun h => by have := hfar _ h; omega) (fun h => by have := hfar _ h; omega) (fun h => by have := hfar _ h; omega) (fun h => by have := hfar _ h; omega) (fun h => by have := hfar _ h; omega) (fun h => by have := hfar _ h; omega)⟩
  · intro q hq
    unfold FR.has at hq
    simp only at hq
    omega
end Go.Proofs.YtgljjgmfhememaaGreatDoor
