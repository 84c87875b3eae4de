/- treadlelaw15.MemoPlaces, its walk: it answers true for every key and size and leaves all memory as it was. Conditions: errors.errorType, math/bits.deBruijn64tab hold what the program lays. -/
import Derived.Test.YtgdjbfcdkibdbaaGreatDoorWorks15M
namespace Go.Proofs.YtgdjbfcdkibdbaaGreatDoor
open Go Go.RowKit
set_option maxRecDepth 100000
set_option maxHeartbeats 4000000
theorem place_neg (key s : Int) (h : key < 0) (w : World) : Calls Tryz.prog 10 #[.int .i64 key, .int .i64 s] w fun e w' => e = .returned (.int .i64 (-1)) ∧ w = w' := by
  go_enter Tryz.func10, Tryz.ntmps10
  go_wp2_with fail
  go_ret
  exact ⟨rfl, rfl⟩
theorem place_no (key s : Int) (h : 0 ≤ key) (hs : ¬ s ∈ powers) (w : World) : Calls Tryz.prog 10 #[.int .i64 key, .int .i64 s] w fun e w' => e = .returned (.int .i64 (-1)) ∧ w = w' := by
  go_enter Tryz.func10, Tryz.ntmps10
  go_wp2_with fail
  refine (power_no s hs w).mono ?_
  rintro e w' ⟨rfl, rfl⟩
  go_wp2_with fail
  go_ret
  exact ⟨rfl, rfl⟩
theorem rplace_neg (key s : Int) (h : key < 0) (w : World) : Calls Tryz.prog 11 #[.int .i64 key, .int .i64 s] w fun e w' => e = .returned (.int .i64 (-1)) ∧ w = w' := by
  go_enter Tryz.func11, Tryz.ntmps11
  go_wp2_with fail
  go_ret
  exact ⟨rfl, rfl⟩
theorem rplace_no (key s : Int) (h : 0 ≤ key) (hs : ¬ s ∈ powers) (w : World) : Calls Tryz.prog 11 #[.int .i64 key, .int .i64 s] w fun e w' => e = .returned (.int .i64 (-1)) ∧ w = w' := by
  go_enter Tryz.func11, Tryz.ntmps11
  go_wp2_with fail
  refine (refPower_no s hs w).mono ?_
  rintro e w' ⟨rfl, rfl⟩
  go_wp2_with fail
  go_ret
  exact ⟨rfl, rfl⟩
theorem place_both (key s : Int) (h1 : key ≤ 9223372036854775807) : ∃ r : Int, (∀ w, Tab w → Calls Tryz.prog 10 #[.int .i64 key, .int .i64 s] w fun e w' => e = .returned (.int .i64 r) ∧ w = w') ∧ (∀ w, Calls Tryz.prog 11 #[.int .i64 key, .int .i64 s] w fun e w' => e = .returned (.int .i64 r) ∧ w = w') := by
  by_cases hk : key < 0
  · exact ⟨-1, fun w _ => place_neg key s hk w, fun w => rplace_neg key s hk w⟩
  by_cases hs : s ∈ powers
  · obtain ⟨k, hk12, rfl⟩ := (pw_mem s).1 hs
    exact ⟨placeOf k key, fun w ht => place_pow key (by omega) h1 k hk12 w ht, fun w => rplace key (by omega) h1 k hk12 w⟩
  · exact ⟨-1, fun w _ => place_no key s (by omega) hs w, fun w => rplace_no key s (by omega) hs w⟩
theorem build_one (W : World) : Calls Tryz.prog 14 #[.pointer none] W fun e W' => e = .returned (.tuple #[.int .i64 1, .nilIface]) ∧ W = W' := by
  go_enter Tryz.func14, Tryz.ntmps14
  go_wp2_with fail
  go_ret2
  exact ⟨rfl, rfl⟩
theorem place0 (key : Int) : placeOf 0 key = 0 := by
  have h := zOf_range key
  unfold placeOf
  show zOf key / (18446744073709551616 / 1) = 0
  omega
theorem new_mem (s : Int) (h : s ∈ powers) (w : World) : Calls Tryz.prog 12 #[.int .i64 s] w fun e w' => ∃ m, e = .returned (.pointer (some ⟨m, 0, none⟩)) ∧ Same w w' := by
  obtain ⟨k, hk, rfl⟩ := (pw_mem s).1 h
  have hr := pw_range k (by omega)
  refine (memo_new k hk (pw k).toNat (by omega) w).mono ?_
  rintro e w' ⟨m, pb, cs, bnd, rfl, _, _, _, _, _, _, _, _, _, s1⟩
  exact ⟨m, rfl, s1⟩
set_option maxHeartbeats 8000000 in
theorem memoPlaces_law (key s : Int) (w : World) (k0 : -9223372036854775808 ≤ key) (k1 : key ≤ 9223372036854775807) (hg : ErrType w) (hl : 0 < w.heap.size) (ht : Tab w) :
    Calls Tryz.prog 3 #[.int .i64 key, .int .i64 s] w fun e w' => e = .returned (.bool true) ∧ Same w w' := by
  obtain ⟨r, hp, hq⟩ := place_both key s k1
  have HP := Lib.hid hp
  have HQ := Lib.hid hq
  clear hp hq
  have base : ∃ (b : Bool), (∀ w, Calls Tryz.prog 12 #[.int .i64 s] w fun e w' => ∃ p, e = .returned (.pointer p) ∧ (∀ w, (binOp .neq 23 (.pointer p) (.pointer none)).run Tryz.prog w = .ok (.bool b) w) ∧ Same w w') ∧ (∀ w, Calls Tryz.prog 13 #[.int .i64 s] w fun e w' => e = .returned (.bool b) ∧ w = w') := by
    by_cases hs : s ∈ powers
    · exact ⟨true, fun w => (new_mem s hs w).mono fun e w' ⟨m, he, s1⟩ => ⟨_, he, fun _ => by kernel_rfl, s1⟩, fun w => refPower_yes s hs w⟩
    · exact ⟨false, fun w => (memo_new_no s hs w).mono fun e w' ⟨he, hw⟩ => ⟨_, he, fun _ => by kernel_rfl, hw ▸ Chg.refl _ _⟩, fun w => refPower_no s hs w⟩
  obtain ⟨b, hN, hPw⟩ := base
  have HN := Lib.hid hN
  have HW := Lib.hid hPw
  clear hN hPw
  have hmf := makeFunc_run
  have fine : (0 ≤ key ∧ key < 9223372036854775807) ∨ key < 0 ∨ key = 9223372036854775807 := by omega
  rcases fine with ⟨f0, f1⟩ | fn | fn
  · have e1 : decide (0 ≤ key) = true := by simpa using f0
    have e2 : decide (key < 9223372036854775807) = true := by simpa using f1
    go_enter Tryz.func3, Tryz.ntmps3
    go_wp2_with fail
    refine (HP.out w ht).mono ?_
    rintro e w' ⟨rfl, rfl⟩
    go_wp2_with fail
    refine (HQ.out w).mono ?_
    rintro e w' ⟨rfl, rfl⟩
    go_wp2_with fail
    refine (HN.out w).mono ?_
    rintro e w1 ⟨p, rfl, hpn, s1⟩
    go_wp2_with fail
    refine (HW.out w1).mono ?_
    rintro e w' ⟨rfl, rfl⟩
    go_wp2_with fail
    have kb : Blk (w1.alloc (.cells #[.slice none 0 0] 28)) w1.heap.size #[.slice none 0 0] 28 := Blk.new _ _ _
    have s2 : Same w (w1.alloc (.cells #[.slice none 0 0] 28)) := s1.alloc _
    generalize (w1.alloc (.cells #[.slice none 0 0] 28)) = w2 at *
    generalize w1.heap.size = bb at *
    clear hpn s1
    refine (get_none key _ _ w2).mono ?_
    rintro e w3 ⟨rfl, g3⟩
    have kb3 := g3.blk kb (fun x => x)
    have s3 := s2.trans g3
    clear kb s2 g3
    go_wp2_with fail
    refine (get_bare key _ _ w3 kb3).mono ?_
    rintro e w4 ⟨rfl, g4⟩
    have kb4 := g4.blk kb3 (fun x => x)
    have s4 := s3.trans g4
    clear kb3 s3 g4
    go_wp2_with fail
    refine (memo_new 0 (by omega) 1 rfl w4).mono ?_
    rintro e w5 ⟨m, pb, cs, bnd, rfl, hm, hpp, hcs, z1, z2, z3, z4, hF, z5, g5⟩
    have M5 : MemoB w5 m pb 1 cs := ⟨hm, hpp, hcs⟩
    have kb5 := g5.blk kb4 (fun x => x)
    have s5 := s4.trans g5
    have hbl := kb4.lt
    clear hm hpp hcs kb4 g5
    obtain ⟨c0, b0, s0, l0, lb0, hb0, q0, P0⟩ := hF 0 (by omega)
    clear hF
    obtain ⟨lo01, lo02, lo03, lo04, lo05, lo06, lo07⟩ := P0.lo
    have hzz := s4.size
    have ht5 := ht.same s5
    have HP0 := Lib.hid P0
    clear P0
    go_wp2_with fail
    refine (get_value 0 (by omega) 1 rfl M5 ht5 key f0 f1 0 (place0 key) (by omega) HP0.out 14 #[] 1 (fun _ => False) (fun _ => True) (fun _ _ => by kernel_rfl) (fun W _ => (build_one W).mono fun e W' ⟨he, hw⟩ => ⟨he, hw ▸ Chg.refl _ _, trivial⟩) (fun _ _ _ _ _ _ => trivial) (fun _ h => h.elim)).mono ?_
    rintro e w6 ⟨rfl, _, _, _, g6⟩
    have M6 := M5.chg g6 (by rintro ((e | e | e | e) | e) <;> first | omega | exact e) (by rintro ((e | e | e | e) | e) <;> first | omega | exact e)
    have kb6 := g6.blk kb5 (by rintro ((e | e | e | e) | e) <;> first | omega | exact e)
    have s6 : Same w w6 := s5.trans' g6 (fun i hi e => by rcases e with (e | e | e | e) | e <;> first | omega | exact e)
    clear M5 kb5 s5 g6
    go_wp2_with fail
    refine (get_nil w6 M6 (by omega)).mono ?_
    rintro e w7 ⟨rfl, g7⟩
    have kb7 := g7.blk kb6 (fun x => x)
    have s7 := s6.trans g7
    clear M6 kb6 s6 g7
    go_wp2_with fail
    refine (class_any (l := []) (B := some (.errno 2)) w7 rfl (hg.same s7 hl) (Nat.lt_of_lt_of_le hl s7.size)).mono ?_
    rintro e w8 ⟨rfl, g8⟩
    simp only [clsOf, Base.cls]
    have kb8 := g8.blk kb7 (fun x => x)
    have s8 := s7.trans g8
    clear kb7 s7 g8
    go_wp2_with fail
    refine (class_any (l := []) (B := some (.errno 2)) w8 rfl (hg.same s8 hl) (Nat.lt_of_lt_of_le hl s8.size)).mono ?_
    rintro e w9 ⟨rfl, g9⟩
    simp only [clsOf, Base.cls]
    have kb9 := g9.blk kb8 (fun x => x)
    have s9 := s8.trans g9
    clear kb8 s8 g9
    go_wp2_with fail
    refine (class_nil w9).mono ?_
    rintro e wa ⟨rfl, ga⟩
    simp only [clsOf, Base.cls]
    have kba := ga.blk kb9 (fun x => x)
    have sa := s9.trans ga
    clear kb9 s9 ga
    go_wp2_with fail
    refine (class_any (l := []) (B := some (.errno 1)) wa rfl (hg.same sa hl) (Nat.lt_of_lt_of_le hl sa.size)).mono ?_
    rintro e wb ⟨rfl, gb⟩
    simp only [clsOf, Base.cls]
    have kbb := gb.blk kba (fun x => x)
    have sb := sa.trans gb
    clear kba sa gb
    go_wp2_with fail
    refine (keys_none wb).mono ?_
    rintro e w' ⟨rfl, rfl⟩
    go_wp2_with fail
    refine (keys_bare wb kbb).mono ?_
    rintro e w' ⟨rfl, rfl⟩
    go_wp2_with fail
    refine (works15 wb (hg.same sb hl) (Nat.lt_of_lt_of_le hl sb.size) (ht.same sb)).mono ?_
    rintro e wc ⟨rfl, gc⟩
    go_wp2_with fail
    go_ret
    exact ⟨rfl, sb.trans gc⟩
  · have e1 : decide (0 ≤ key) = false := by simpa using fn
    go_enter Tryz.func3, Tryz.ntmps3
    go_wp2_with fail
    refine (HP.out w ht).mono ?_
    rintro e w' ⟨rfl, rfl⟩
    go_wp2_with fail
    refine (HQ.out w).mono ?_
    rintro e w' ⟨rfl, rfl⟩
    go_wp2_with fail
    refine (HN.out w).mono ?_
    rintro e w1 ⟨p, rfl, hpn, s1⟩
    go_wp2_with fail
    refine (HW.out w1).mono ?_
    rintro e w' ⟨rfl, rfl⟩
    go_wp2_with fail
    have kb : Blk (w1.alloc (.cells #[.slice none 0 0] 28)) w1.heap.size #[.slice none 0 0] 28 := Blk.new _ _ _
    have s2 : Same w (w1.alloc (.cells #[.slice none 0 0] 28)) := s1.alloc _
    generalize (w1.alloc (.cells #[.slice none 0 0] 28)) = w2 at *
    generalize w1.heap.size = bb at *
    clear hpn s1
    refine (get_none key _ _ w2).mono ?_
    rintro e w3 ⟨rfl, g3⟩
    have kb3 := g3.blk kb (fun x => x)
    have s3 := s2.trans g3
    clear kb s2 g3
    go_wp2_with fail
    refine (get_bare key _ _ w3 kb3).mono ?_
    rintro e w4 ⟨rfl, g4⟩
    have kb4 := g4.blk kb3 (fun x => x)
    have s4 := s3.trans g4
    clear kb3 s3 g4
    go_wp2_with fail
    refine (memo_new 0 (by omega) 1 rfl w4).mono ?_
    rintro e w5 ⟨m, pb, cs, bnd, rfl, hm, hpp, hcs, z1, z2, z3, z4, hF, z5, g5⟩
    have M5 : MemoB w5 m pb 1 cs := ⟨hm, hpp, hcs⟩
    have kb5 := g5.blk kb4 (fun x => x)
    have s5 := s4.trans g5
    have hbl := kb4.lt
    clear hm hpp hcs kb4 g5
    clear hF
    go_wp2_with fail
    refine (get_arg key _ _ w5 M5 (by omega) (by omega)).mono ?_
    rintro e w6 ⟨rfl, g6⟩
    have M6 := M5.chg g6 (fun x => x) (fun x => x)
    have kb6 := g6.blk kb5 (fun x => x)
    have s6 := s5.trans g6
    clear M5 kb5 s5 g6
    go_wp2_with fail
    refine (get_nil w6 M6 (by omega)).mono ?_
    rintro e w7 ⟨rfl, g7⟩
    have kb7 := g7.blk kb6 (fun x => x)
    have s7 := s6.trans g7
    clear M6 kb6 s6 g7
    go_wp2_with fail
    refine (class_any (l := []) (B := some (.errno 2)) w7 rfl (hg.same s7 hl) (Nat.lt_of_lt_of_le hl s7.size)).mono ?_
    rintro e w8 ⟨rfl, g8⟩
    simp only [clsOf, Base.cls]
    have kb8 := g8.blk kb7 (fun x => x)
    have s8 := s7.trans g8
    clear kb7 s7 g8
    go_wp2_with fail
    refine (class_any (l := []) (B := some (.errno 2)) w8 rfl (hg.same s8 hl) (Nat.lt_of_lt_of_le hl s8.size)).mono ?_
    rintro e w9 ⟨rfl, g9⟩
    simp only [clsOf, Base.cls]
    have kb9 := g9.blk kb8 (fun x => x)
    have s9 := s8.trans g9
    clear kb8 s8 g9
    go_wp2_with fail
    refine (class_any (l := []) (B := some (.errno 1)) w9 rfl (hg.same s9 hl) (Nat.lt_of_lt_of_le hl s9.size)).mono ?_
    rintro e wa ⟨rfl, ga⟩
    simp only [clsOf, Base.cls]
    have kba := ga.blk kb9 (fun x => x)
    have sa := s9.trans ga
    clear kb9 s9 ga
    go_wp2_with fail
    refine (class_any (l := []) (B := some (.errno 1)) wa rfl (hg.same sa hl) (Nat.lt_of_lt_of_le hl sa.size)).mono ?_
    rintro e wb ⟨rfl, gb⟩
    simp only [clsOf, Base.cls]
    have kbb := gb.blk kba (fun x => x)
    have sb := sa.trans gb
    clear kba sa gb
    go_wp2_with fail
    refine (keys_none wb).mono ?_
    rintro e w' ⟨rfl, rfl⟩
    go_wp2_with fail
    refine (keys_bare wb kbb).mono ?_
    rintro e w' ⟨rfl, rfl⟩
    go_wp2_with fail
    refine (works15 wb (hg.same sb hl) (Nat.lt_of_lt_of_le hl sb.size) (ht.same sb)).mono ?_
    rintro e wc ⟨rfl, gc⟩
    go_wp2_with fail
    go_ret
    exact ⟨rfl, sb.trans gc⟩
  · have e1 : decide (0 ≤ key) = true := by simp; omega
    have e2 : decide (key < 9223372036854775807) = false := by simp; omega
    have FN := Lib.hid fn
    clear fn
    go_enter Tryz.func3, Tryz.ntmps3
    go_wp2_with fail
    refine (HP.out w ht).mono ?_
    rintro e w' ⟨rfl, rfl⟩
    go_wp2_with fail
    refine (HQ.out w).mono ?_
    rintro e w' ⟨rfl, rfl⟩
    go_wp2_with fail
    refine (HN.out w).mono ?_
    rintro e w1 ⟨p, rfl, hpn, s1⟩
    go_wp2_with fail
    refine (HW.out w1).mono ?_
    rintro e w' ⟨rfl, rfl⟩
    go_wp2_with fail
    have kb : Blk (w1.alloc (.cells #[.slice none 0 0] 28)) w1.heap.size #[.slice none 0 0] 28 := Blk.new _ _ _
    have s2 : Same w (w1.alloc (.cells #[.slice none 0 0] 28)) := s1.alloc _
    generalize (w1.alloc (.cells #[.slice none 0 0] 28)) = w2 at *
    generalize w1.heap.size = bb at *
    clear hpn s1
    refine (get_none key _ _ w2).mono ?_
    rintro e w3 ⟨rfl, g3⟩
    have kb3 := g3.blk kb (fun x => x)
    have s3 := s2.trans g3
    clear kb s2 g3
    go_wp2_with fail
    refine (get_bare key _ _ w3 kb3).mono ?_
    rintro e w4 ⟨rfl, g4⟩
    have kb4 := g4.blk kb3 (fun x => x)
    have s4 := s3.trans g4
    clear kb3 s3 g4
    go_wp2_with fail
    refine (memo_new 0 (by omega) 1 rfl w4).mono ?_
    rintro e w5 ⟨m, pb, cs, bnd, rfl, hm, hpp, hcs, z1, z2, z3, z4, hF, z5, g5⟩
    have M5 : MemoB w5 m pb 1 cs := ⟨hm, hpp, hcs⟩
    have kb5 := g5.blk kb4 (fun x => x)
    have s5 := s4.trans g5
    have hbl := kb4.lt
    clear hm hpp hcs kb4 g5
    clear hF
    go_wp2_with fail
    refine (get_arg key _ _ w5 M5 (by omega) (.inr FN.out)).mono ?_
    rintro e w6 ⟨rfl, g6⟩
    have M6 := M5.chg g6 (fun x => x) (fun x => x)
    have kb6 := g6.blk kb5 (fun x => x)
    have s6 := s5.trans g6
    clear M5 kb5 s5 g6
    go_wp2_with fail
    refine (get_nil w6 M6 (by omega)).mono ?_
    rintro e w7 ⟨rfl, g7⟩
    have kb7 := g7.blk kb6 (fun x => x)
    have s7 := s6.trans g7
    clear M6 kb6 s6 g7
    go_wp2_with fail
    refine (class_any (l := []) (B := some (.errno 2)) w7 rfl (hg.same s7 hl) (Nat.lt_of_lt_of_le hl s7.size)).mono ?_
    rintro e w8 ⟨rfl, g8⟩
    simp only [clsOf, Base.cls]
    have kb8 := g8.blk kb7 (fun x => x)
    have s8 := s7.trans g8
    clear kb7 s7 g8
    go_wp2_with fail
    refine (class_any (l := []) (B := some (.errno 2)) w8 rfl (hg.same s8 hl) (Nat.lt_of_lt_of_le hl s8.size)).mono ?_
    rintro e w9 ⟨rfl, g9⟩
    simp only [clsOf, Base.cls]
    have kb9 := g9.blk kb8 (fun x => x)
    have s9 := s8.trans g9
    clear kb8 s8 g9
    go_wp2_with fail
    refine (class_any (l := []) (B := some (.errno 1)) w9 rfl (hg.same s9 hl) (Nat.lt_of_lt_of_le hl s9.size)).mono ?_
    rintro e wa ⟨rfl, ga⟩
    simp only [clsOf, Base.cls]
    have kba := ga.blk kb9 (fun x => x)
    have sa := s9.trans ga
    clear kb9 s9 ga
    go_wp2_with fail
    refine (class_any (l := []) (B := some (.errno 1)) wa rfl (hg.same sa hl) (Nat.lt_of_lt_of_le hl sa.size)).mono ?_
    rintro e wb ⟨rfl, gb⟩
    simp only [clsOf, Base.cls]
    have kbb := gb.blk kba (fun x => x)
    have sb := sa.trans gb
    clear kba sa gb
    go_wp2_with fail
    refine (keys_none wb).mono ?_
    rintro e w' ⟨rfl, rfl⟩
    go_wp2_with fail
    refine (keys_bare wb kbb).mono ?_
    rintro e w' ⟨rfl, rfl⟩
    go_wp2_with fail
    refine (works15 wb (hg.same sb hl) (Nat.lt_of_lt_of_le hl sb.size) (ht.same sb)).mono ?_
    rintro e wc ⟨rfl, gc⟩
    go_wp2_with fail
    go_ret
    exact ⟨rfl, sb.trans gc⟩
end Go.Proofs.YtgdjbfcdkibdbaaGreatDoor
