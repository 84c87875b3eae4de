/- treadlelaw14.FutureNone, its walk: it answers true for every number and leaves all memory as it was. Conditions: errors.errorType holds what the program lays. -/
import Derived.Test.YtgdjbfcdkibdbaaDoorWorks14
namespace Go.Proofs.YtgdjbfcdkibdbaaDoor
open Go Go.RowKit
set_option maxRecDepth 100000
set_option maxHeartbeats 2000000
theorem futureNone_law (n : Int) (w : World) (hg : ErrType w) (hl : 1 < w.heap.size) : Calls Tryd.prog 7 #[.int .i64 n] w fun e w' => e = .returned (.bool true) ∧ Same w w' := by
  have n1 : ∀ W, NoFut W none := fun _ => .inl rfl
  have b1 : Blk ((w.alloc (.cells #[.pointer none, .pointer none, .int .i64 0, .nilIface] 97)).alloc (.cells #[.pointer none] 100)) w.heap.size #[.pointer none, .pointer none, .int .i64 0, .nilIface] 97 := (Blk.new _ _ _).alloc _
  have e1 : Blk ((w.alloc (.cells #[.pointer none, .pointer none, .int .i64 0, .nilIface] 97)).alloc (.cells #[.pointer none] 100)) (w.heap.size + 1) #[.pointer none] 100 := Blk.neww (by simp) _ _
  have f1 : NoFut ((w.alloc (.cells #[.pointer none, .pointer none, .int .i64 0, .nilIface] 97)).alloc (.cells #[.pointer none] 100)) (some ⟨w.heap.size, 0, none⟩) := .inr ⟨_, _, rfl, b1, rfl⟩
  have s1 : Same w ((w.alloc (.cells #[.pointer none, .pointer none, .int .i64 0, .nilIface] 97)).alloc (.cells #[.pointer none] 100)) := ((Chg.refl _ _).alloc _).alloc _
  go_enter Tryd.func7, Tryd.ntmps7
  go_wp2_with fail
  generalize ((w.alloc (.cells #[.pointer none, .pointer none, .int .i64 0, .nilIface] 97)).alloc (.cells #[.pointer none] 100)) = W1 at *
  refine (fut_none_claim W1 _ (n1 _)).mono ?_
  rintro e W' ⟨rfl, rfl⟩
  go_wp2_with fail
  refine (fut_none_claim W1 _ f1).mono ?_
  rintro e W' ⟨rfl, rfl⟩
  go_wp2_with fail
  refine (fut_none_complete W1 _ n _ (n1 _)).mono ?_
  rintro e W' ⟨rfl, rfl⟩
  go_wp2_with fail
  refine (fut_none_complete W1 _ n _ f1).mono ?_
  rintro e W' ⟨rfl, rfl⟩
  go_wp2_with fail
  refine (prom_none_fill W1 n _).mono ?_
  rintro e W' ⟨rfl, rfl⟩
  go_wp2_with fail
  refine (prom_empty_fill W1 _ n _ e1).mono ?_
  rintro e W' ⟨rfl, rfl⟩
  clear e1
  go_wp2_with fail
  refine (fut_none_await W1 _ (n1 _)).mono ?_
  rintro e W' ⟨rfl, rfl⟩
  go_wp2_with fail
  refine (fut_none_await W1 _ f1).mono ?_
  rintro e W' ⟨rfl, rfl⟩
  go_wp2_with fail
  refine (fut_none_peek W1 _ (n1 _)).mono ?_
  rintro e W' ⟨rfl, rfl⟩
  go_wp2_with fail
  refine (fut_none_peek W1 _ f1).mono ?_
  rintro e W' ⟨rfl, rfl⟩
  go_wp2_with fail
  refine (fut_none_map W1 _ _ _ (n1 _)).mono ?_
  rintro e W2 ⟨rfl, s2⟩
  have f2 := f1.same s2
  have m2 := s1.trans s2
  clear f1 b1 s1 s2
  go_wp2_with fail
  refine (fut_none_map W2 _ _ _ f2).mono ?_
  rintro e W3 ⟨rfl, s3⟩
  have f3 := f2.same s3
  have m3 := m2.trans s3
  clear f2 m2 s3
  have hg3 := hg.same m3 hl
  have hz3 := m3.size
  go_wp2_with fail
  refine (class_any (l := []) (B := some (.errno 2)) W3 rfl hg3 (by omega)).mono ?_
  rintro e W4 ⟨rfl, s4⟩
  simp only [clsOf, Base.cls]
  go_wp2_with fail
  refine (class_any (l := []) (B := some (.errno 2)) W4 rfl (hg3.same s4 (by omega)) (by have := s4.size; omega)).mono ?_
  rintro e W5 ⟨rfl, s5⟩
  simp only [clsOf, Base.cls]
  have f5 := f3.same (s4.trans s5)
  have m5 := m3.trans (s4.trans s5)
  clear s4 s5 f3 m3 hg3
  go_wp2_with fail
  refine (fut_new W5).mono ?_
  rintro e W6 ⟨b, s, l, lb, hb, pb, rfl, h6, z1, z2, z3, z4, z5, z6, s6⟩
  have f6 := f5.same s6
  have m6 := m5.trans s6
  have hz5 := m5.size
  clear f5 m5 s6
  go_wp2_with fail
  refine (fut_map_nil h6).mono ?_
  rintro e W7 ⟨rfl, s7⟩
  have h7 := h6.chg s7 (fun x => x) (fun x => x) (fun x => x) (fun x => x) (fun x => x) (fun x => x)
  have f7 := f6.same s7
  have m7 := m6.trans s7
  clear f6 m6 s7 h6
  go_wp2_with fail
  refine (fut_none_then W7 _ _ (n1 _)).mono ?_
  rintro e W' ⟨rfl, rfl⟩
  go_wp2_with fail
  refine (fut_none_then W7 _ _ f7).mono ?_
  rintro e W' ⟨rfl, rfl⟩
  go_wp2_with fail
  refine (fut_none_then W7 _ _ (n1 _)).mono ?_
  rintro e W' ⟨rfl, rfl⟩
  go_wp2_with fail
  refine (fut_then_nil h7).mono ?_
  rintro e W' ⟨rfl, rfl⟩
  clear f7
  go_wp2_with fail
  refine (fut_claim h7).mono ?_
  rintro e W8 ⟨p, rfl, h8, p8, zp, g8⟩
  have hz7 := m7.size
  have m8 : Same w W8 := m7.trans' g8 (fun i hi e => by omega)
  clear h7 m7 g8
  go_wp2_with fail
  refine (fut_claim_no h8 (by decide)).mono ?_
  rintro e W' ⟨rfl, rfl⟩
  go_wp2_with fail
  refine (fut_complete_no h8 (by decide) n .nilIface).mono ?_
  rintro e W' ⟨rfl, rfl⟩
  go_wp2_with fail
  have k9 : Blk (W8.alloc (.cells #[.int .i64 n] 85)) W8.heap.size #[.int .i64 n] 85 := Blk.new _ _ _
  have s9 : Same W8 (W8.alloc (.cells #[.int .i64 n] 85)) := (Chg.refl _ _).alloc _
  have hp9 := s9.blk p8 (fun x => x)
  have hlt8 := h8.lt
  have hplt := p8.lt
  have h9 := h8.chg s9 (fun x => x) (fun x => x) (fun x => x) (fun x => x) (fun x => x) (fun x => x)
  have m9 := m8.trans s9
  clear h8 m8 s9 p8
  generalize W8.alloc (.cells #[.int .i64 n] 85) = W9 at *
  generalize W8.heap.size = fb at *
  refine (fut_fill_fail p n 55 (.pointer (some ⟨fb, 0, none⟩)) h9 hp9).mono ?_
  rintro e W10 ⟨rfl, h10, p10, g10⟩
  have k10 := g10.blk k9 (by omega)
  have m10 : Same w W10 := m9.trans' g10 (fun i hi e => by omega)
  clear h9 hp9 k9 m9 g10
  go_wp2_with fail
  refine (prom_empty_fill W10 _ n _ p10).mono ?_
  rintro e W' ⟨rfl, rfl⟩
  clear p10
  go_wp2_with fail
  refine (fut_await h10 (by decide)).mono ?_
  rintro e W11 ⟨rfl, s11⟩
  have k11 := s11.blk k10 (fun x => x)
  have m11 := m10.trans s11
  have hg11 := hg.same m11 hl
  have hz11 := m11.size
  clear k10 m10 s11 h10
  go_wp2_with fail
  refine (class_any (l := []) (B := some (.failed n)) W11 ⟨fb, rfl, k11⟩ hg11 (by omega)).mono ?_
  rintro e W12 ⟨rfl, s12⟩
  simp only [clsOf, Base.cls]
  have m12 := m11.trans s12
  clear k11 m11 s12 hg11
  go_wp2_with fail
  refine (works14 W12).mono ?_
  rintro e W13 ⟨rfl, s13⟩
  go_wp2_with fail
  go_ret
  exact ⟨rfl, m12.trans s13⟩
end Go.Proofs.YtgdjbfcdkibdbaaDoor
