/- treadlelaw15.works answers true and leaves all memory as it was. Conditions: errors.errorType, math/bits.deBruijn64tab hold what the program lays. -/
import Derived.Test.YtgdjbfcdkibdbaaGreatDoorMemoX
namespace Go.Proofs.YtgdjbfcdkibdbaaGreatDoor
open Go Go.RowKit
set_option maxRecDepth 100000
set_option maxHeartbeats 4000000
theorem place11 : placeOf 1 1 = 1 := by kernel_rfl
theorem place12 : placeOf 1 2 = 0 := by kernel_rfl
theorem works15 (w : World) (hg : ErrType w) (hl : 0 < w.heap.size) (ht : Tab w) : Calls Tryz.prog 18 #[] w fun e w' => e = .returned (.bool true) ∧ Same w w' := by
  have hmf := makeFunc_run
  go_enter Tryz.func18, Tryz.ntmps18
  go_wp2_with fail
  refine (memo_new 1 (by omega) 2 rfl w).mono ?_
  rintro e w1 ⟨m, pb, cs, bnd, rfl, hm, hp, hcs, z1, z2, z3, z4, hF, z5, s1⟩
  obtain ⟨c0, b0, s0, l0, lb0, hb0, q0, P0⟩ := hF 0 (by omega)
  obtain ⟨c1, b1, s1', l1, lb1, hb1, q1, P1⟩ := hF 1 (by omega)
  have M1 : MemoB w1 m pb 2 cs := ⟨hm, hp, hcs⟩
  clear hF hm hp hcs
  go_wp2_with fail
  have kmb : Blk ((w1.alloc (.cells #[.pointer (some ⟨m, 0, none⟩)] 23)).alloc (.cells #[.int .i64 0] 3)) w1.heap.size #[.pointer (some ⟨m, 0, none⟩)] 23 := (Blk.new _ _ _).alloc _
  have kbb : Blk ((w1.alloc (.cells #[.pointer (some ⟨m, 0, none⟩)] 23)).alloc (.cells #[.int .i64 0] 3)) (w1.heap.size + 1) #[.int .i64 0] 3 := Blk.neww (by simp) _ _
  have s2 : Same w1 ((w1.alloc (.cells #[.pointer (some ⟨m, 0, none⟩)] 23)).alloc (.cells #[.int .i64 0] 3)) := ((Chg.refl _ _).alloc _).alloc _
  generalize ((w1.alloc (.cells #[.pointer (some ⟨m, 0, none⟩)] 23)).alloc (.cells #[.int .i64 0] 3)) = w2 at *
  have M2 := M1.chg s2 (fun x => x) (fun x => x)
  have Q0 := P0.chg s2 (fun _ _ _ x => x)
  have Q1 := P1.chg s2 (fun _ _ _ x => x)
  have m2 := s1.trans s2
  have hz1 := s1.size
  have h00 : bnd (0 + 1) = bnd 1 := rfl
  have h01 : bnd (1 + 1) = bnd 2 := rfl
  rw [h00] at Q0
  rw [h01] at Q1
  obtain ⟨lo01, lo02, lo03, lo04, lo05, lo06, lo07⟩ := Q0.lo
  obtain ⟨hi01, hi02, hi03, hi04, hi05, hi06, hi07⟩ := Q0.hi
  obtain ⟨lo11, lo12, lo13, lo14, lo15, lo16, lo17⟩ := Q1.lo
  obtain ⟨hi11, hi12, hi13, hi14, hi15, hi16, hi17⟩ := Q1.hi
  generalize bnd 0 = B0 at *
  generalize bnd 1 = B1 at *
  generalize bnd 2 = B2 at *
  generalize hmb : w1.heap.size = mb at *
  have ka0 := Lib.hid Q0.k0
  have ka1 := Lib.hid Q0.k1
  have kb0 := Lib.hid Q1.k0
  have kb1 := Lib.hid Q1.k1
  clear P0 P1 M1 s1 s2 h00 h01 hmb
  refine (wget_value M2 (ht.same m2) kmb kbb (by omega) (by omega) 1 (by omega) (by omega) 1 place11 (by omega) Q1 (by omega) (by omega) (by omega)).mono ?_
  rintro e w3 ⟨rfl, hc1, hf1, kbb3, g3⟩
  have M3 := M2.chg g3 (by rintro ((e | e | e | e) | e) <;> omega) (by rintro ((e | e | e | e) | e) <;> omega)
  have R0 := Q0.chg g3 (fun k h1 h2 => by rintro ((e | e | e | e) | e) <;> omega)
  have kmb3 := g3.blk kmb (by rintro ((e | e | e | e) | e) <;> omega)
  have m3 : Same w w3 := m2.trans' g3 (fun i hi e => by rcases e with (e | e | e | e) | e <;> omega)
  clear M2 Q0 Q1 kmb kbb m2 g3
  go_wp2_with fail
  refine (wget_old M3 (ht.same m3) kmb3 1 (by omega) (by omega) 1 place11 (by omega) kb0.out kb1.out hc1 hf1 (by omega)).mono ?_
  rintro e w4 ⟨rfl, g4⟩
  go_wp2_with fail
  have s5 : Same w3 (w4.alloc (.cells #[.int .i64 7] 143)) := g4.alloc _
  have keb : Blk (w4.alloc (.cells #[.int .i64 7] 143)) w4.heap.size #[.int .i64 7] 143 := Blk.new _ _ _
  have hz4 : w3.heap.size ≤ w4.heap.size := g4.size
  generalize (w4.alloc (.cells #[.int .i64 7] 143)) = w5 at *
  generalize w4.heap.size = eb at *
  have M5 := M3.chg s5 (fun x => x) (fun x => x)
  have R5 := R0.chg s5 (fun _ _ _ x => x)
  have kmb5 := s5.blk kmb3 (fun x => x)
  have kbb5 := s5.blk kbb3 (fun x => x)
  have hc5 := hc1.chg s5 (fun x => x)
  have hf5 := hf1.chg s5 (fun x => x) (fun x => x) (fun x => x) (fun x => x) (fun x => x) (fun x => x)
  have m5 := m3.trans s5
  have hbl3 := kbb3.lt
  clear M3 R0 kmb3 kbb3 hc1 hf1 m3 g4 s5
  refine (wget_fail M5 (ht.same m5) kmb5 kbb5 (by omega) (by omega) 2 (by omega) (by omega) 0 place12 (by omega) 141 (.pointer (some ⟨eb, 0, none⟩)) R5 (by omega) (by omega) (by omega)).mono ?_
  rintro e w6 ⟨rfl, hc0, hf0, kbb6, g6⟩
  have M6 := M5.chg g6 (by rintro ((e | e | e | e) | e) <;> omega) (by rintro ((e | e | e | e) | e) <;> omega)
  have kmb6 := g6.blk kmb5 (by rintro ((e | e | e | e) | e) <;> omega)
  have keb6 := g6.blk keb (by rintro ((e | e | e | e) | e) <;> omega)
  have hc6 := hc5.chg g6 (by rintro ((e | e | e | e) | e) <;> omega)
  have m6 : Same w w6 := m5.trans' g6 (fun i hi e => by rcases e with (e | e | e | e) | e <;> omega)
  clear M5 R5 kmb5 kbb5 hc5 hf5 m5 g6 keb
  go_wp2_with fail
  refine (wget_old M6 (ht.same m6) kmb6 2 (by omega) (by omega) 0 place12 (by omega) ka0.out ka1.out hc0 hf0 (by omega)).mono ?_
  rintro e w7 ⟨rfl, g7⟩
  have M7 := M6.chg g7 (fun x => x) (fun x => x)
  have kmb7 := g7.blk kmb6 (fun x => x)
  have kbb7 := g7.blk kbb6 (fun x => x)
  have keb7 := g7.blk keb6 (fun x => x)
  have hc7 := hc6.chg g7 (fun x => x)
  have hd7 := hc0.chg g7 (fun x => x)
  have m7 := m6.trans g7
  clear M6 kmb6 kbb6 keb6 hc6 hc0 hf0 m6 g7
  go_wp2_with fail
  refine (wget_full M7 (ht.same m7) kmb7 c0 b0 c1 b1 ka0.out ka1.out kb0.out kb1.out hd7 hc7).mono ?_
  rintro e w8 ⟨rfl, g8⟩
  have M8 := M7.chg g8 (fun x => x) (fun x => x)
  have kmb8 := g8.blk kmb7 (fun x => x)
  have kbb8 := g8.blk kbb7 (fun x => x)
  have keb8 := g8.blk keb7 (fun x => x)
  have hc8 := hc7.chg g8 (fun x => x)
  have hd8 := hd7.chg g8 (fun x => x)
  have m8 := m7.trans g8
  clear M7 kmb7 kbb7 keb7 hc7 hd7 m7 g8
  go_wp2_with fail
  refine (class_any (l := []) (B := some (.failed 7)) w8 ⟨eb, rfl, keb8⟩ (hg.same m8 hl) (Nat.lt_of_lt_of_le hl m8.size)).mono ?_
  rintro e w9 ⟨rfl, g9⟩
  simp only [clsOf, Base.cls]
  go_wp2_with fail
  refine (alike_failed w9 eb).mono ?_
  rintro e w' ⟨rfl, rfl⟩
  have m9 := m8.trans g9
  go_wp2_with fail
  refine (class_any (l := []) (B := some (.errno 12)) w9 rfl (hg.same m9 hl) (Nat.lt_of_lt_of_le hl m9.size)).mono ?_
  rintro e w10 ⟨rfl, g10⟩
  simp only [clsOf, Base.cls]
  have m10 := m9.trans g10
  have g11 := g9.trans g10
  have M10 := M8.chg g11 (fun x => x) (fun x => x)
  have u0 := (g11.blk kmb8 (fun x => x)).cellAt 0 (v := .pointer (some ⟨m, 0, none⟩)) rfl
  have u1 := (g11.blk kbb8 (fun x => x)).cellAt 0 (v := .int .i64 2) rfl
  have hc10 := hc8.chg g11 (fun x => x)
  have hd10 := hd8.chg g11 (fun x => x)
  clear M8 kmb8 kbb8 keb8 hc8 hd8 m8 m9 g9 g10 g11
  go_wp2_with fail
  refine (keys_two M10 c0 c1 3 2 ka0.out kb0.out hd10 hc10 (by omega) (by omega) (by omega) (by omega)).mono ?_
  rintro e w11 ⟨p, c, rfl, g12⟩
  go_wp2_with fail
  go_ret
  exact ⟨rfl, m10.trans g12⟩
end Go.Proofs.YtgdjbfcdkibdbaaGreatDoor
