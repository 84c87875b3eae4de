/- join.Quorum of none. Conditions: none. -/
import Derived.Test.YtgljjgmfhememaaGreatDoorJoinE
import Derived.Test.YtgljjgmfhememaaGreatDoorFutC
namespace Go.Proofs.YtgljjgmfhememaaGreatDoor
open Go Go.RowKit Go.Sort
set_option maxRecDepth 100000
set_option maxHeartbeats 1000000
/-- What such a call leaves: a new future that is filled. -/
def Done (w : World) (e : Ending) (w' : World) : Prop :=
  ∃ (g : FR) (v : Int) (st last : Int) (pl : Array Value), e = .returned (.tuple #[.pointer (some ⟨g.b, 0, none⟩), .int .i64 0]) ∧ FutAt w' g.b g.s g.l g.lb g.hb g.pb st last (-1) pl v .nilIface ∧ 2 ≤ st ∧ (∀ k, g.has k → w.heap.size ≤ k) ∧ Same w w'
theorem quorum_zero (w : World) (l : Value) (ps : List (Option Addr)) (hl : Ptrs w l ps) (hm : ∀ p ∈ ps, MadeP w p) :
    Calls Tryz.prog 13 #[.pointer none, .int .i64 0, l] w (Done w) := by
  have hj := join_none_no w l _ hl hm
  obtain ⟨p, cap, rfl⟩ := hl.slice
  clear hl hm
  go_enter Tryz.func13, Tryz.ntmps13
  go_wp2_with fail
  refine hj.mono ?_
  rintro e _ ⟨rfl, rfl⟩
  clear hj
  go_wp2_with fail
  refine (fut_new w).mono ?_
  rintro e w1 ⟨b, s, lf, lb, hb, pb, rfl, hF, g1, g2, g3, g4, g5, g6, s1⟩
  go_wp2_with fail
  refine (cell_new _ _).mono ?_
  rintro e w2 ⟨rfl, rfl⟩
  go_wp2_with fail
  refine (cell_new _ _).mono ?_
  rintro e w2 ⟨rfl, rfl⟩
  go_wp2_with fail
  have sW : Same w1 (((((w1.alloc (.cells #[.int .i64 0, .bool true, .int .i32 0, .int .u32 0, .chan none] 173)).alloc (.cells #[.int .i64 0, .bool true, .int .i32 0, .int .u32 0, .chan none] 173)).alloc (.cells #[.pointer (some ⟨b, 0, none⟩)] 24)).alloc (.cells #[.pointer (some ⟨w1.heap.size, 0, none⟩)] 26)).alloc (.cells #[.pointer (some ⟨w1.heap.size + 1, 0, none⟩)] 26)) := (((((Chg.refl _ _).alloc _).alloc _).alloc _).alloc _).alloc _
  have kG : Blk (((((w1.alloc (.cells #[.int .i64 0, .bool true, .int .i32 0, .int .u32 0, .chan none] 173)).alloc (.cells #[.int .i64 0, .bool true, .int .i32 0, .int .u32 0, .chan none] 173)).alloc (.cells #[.pointer (some ⟨b, 0, none⟩)] 24)).alloc (.cells #[.pointer (some ⟨w1.heap.size, 0, none⟩)] 26)).alloc (.cells #[.pointer (some ⟨w1.heap.size + 1, 0, none⟩)] 26)) (w1.heap.size + 1 + 1) #[.pointer (some ⟨b, 0, none⟩)] 24 := ((Blk.neww (by simp) _ _).alloc _).alloc _
  generalize (((((w1.alloc (.cells #[.int .i64 0, .bool true, .int .i32 0, .int .u32 0, .chan none] 173)).alloc (.cells #[.int .i64 0, .bool true, .int .i32 0, .int .u32 0, .chan none] 173)).alloc (.cells #[.pointer (some ⟨b, 0, none⟩)] 24)).alloc (.cells #[.pointer (some ⟨w1.heap.size, 0, none⟩)] 26)).alloc (.cells #[.pointer (some ⟨w1.heap.size + 1, 0, none⟩)] 26)) = W at *
  have mW := s1.trans sW
  have hsz := s1.size
  have hlt := hF.lt
  refine (fut_complete_none 0 (hF.chg sW (fun x => x) (fun x => x) (fun x => x) (fun x => x) (fun x => x) (fun x => x))).mono ?_
  rintro e w3 ⟨rfl, h3, c3⟩
  have kG3 := c3.blk kG (by omega)
  have x0 := kG3.cellAt 0 (v := .pointer (some ⟨b, 0, none⟩)) rfl
  have m3 : Same w w3 := mW.trans' c3 (fun q hq e => by omega)
  clear kG kG3 c3
  go_wp2_with fail
  go_ret2
  refine ⟨⟨b, s, lf, lb, hb, pb⟩, _, _, _, _, rfl, h3, by omega, ?_, m3⟩
  intro q hq
  unfold FR.has at hq
  simp only at hq
  omega
end Go.Proofs.YtgljjgmfhememaaGreatDoor
