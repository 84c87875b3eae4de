/- treadlelaw16.JoinNone, its walk where all are futures and there is none. Conditions: errors.errorType holds what the program lays. -/
import Derived.Test.YtgljjgmfhememaaGreatDoorJoinNoneW
namespace Go.Proofs.YtgljjgmfhememaaGreatDoor
open Go Go.RowKit Go.Sort
set_option maxRecDepth 100000
set_option maxHeartbeats 8000000
theorem joinNone_n_neg (many k nobody : Int) (n : Nat) (w : World) (hn : n ≤ 5) (hat : ∀ w, Calls Tryz.prog 9 #[.int .i64 many, .int .i64 6] w fun e w' => e = .returned (.int .i64 n) ∧ w = w') (hpos : n = 0) (hk1 : k < 0) (hg : ErrType w) (hl : 0 < w.heap.size) :
    Calls Tryz.prog 3 #[.int .i64 many, .int .i64 k, .int .i64 nobody] w fun e w' => e = .returned (.bool true) ∧ Same w w' := by
  have hcall := Lib.hid (hat w)
  have HE := Lib.hid (And.intro hg hl)
  obtain ⟨i0, hi, hz0, hz1, hz2⟩ := info_parts (P := Tryz.prog) (e := 24) (z := .pointer none) (size := 1) (bytes := 8) (by kernel_rfl)
  clear hat hg hl
  go_enter Tryz.func3, Tryz.ntmps3
  go_wp2_with fail
  refine hcall.out.mono ?_
  rintro e _ ⟨rfl, rfl⟩
  clear hcall
  go_wp2_with fail
  go_loopw [7, 8] (fun v i wr => ∃ rs : List FR, rs.length ≤ n ∧ i = .int .i64 rs.length ∧ FRow w wr v rs) (fun _ i _ => n - (intOf i).toNat)
  case atStart => exact ⟨[], by simp, rfl, FRow.nil w⟩
  case round =>
    obtain ⟨rs, hrs, rfl, hrow⟩ := hrel
    rename World => wr
    have HR := Lib.hid hrow
    by_cases hlt : rs.length < n
    · omega
    · obtain rfl : rs.length = n := by omega
      clear hrow
      obtain rfl : rs = [] := List.eq_nil_of_length_eq_zero (by omega)
      have hrow := HR.out
      have hP := hrow.ptrs (by simp)
      have hA := all_open wr _ [] (fun _ => []) (fun _ => by simp) hP hrow.apart (fun j hj => by simp at hj) (fun _ _ _ _ h => absurd rfl h)
      have HSM := Lib.hid hrow.same
      have HP := Lib.hid hP
      obtain ⟨p, cap, rfl⟩ := hP.slice
      simp only [List.length_nil, List.map_nil] at *
      have HA := Lib.hid hA
      clear hrow hP hA
      go_wp2_with fail
      refine HA.out.mono ?_
      rintro e w3 ⟨_, hpost⟩
      obtain ⟨g1, kj, left, ends, st1, la1, v1, pl1, rfl, hJ, hF1, hst1, hg1, hkj, s3⟩ := hpost rfl
      have hP3 := HP.out.same s3
      have HP3 := Lib.hid (And.intro hJ (And.intro hF1 (And.intro hst1 (And.intro s3 hP3))))
      clear hpost hJ hF1 hst1 hg1 hkj s3 hP3 HA
      go_wp2_with fail
      refine (any_empty w3 _ HP3.out.2.2.2.2).mono ?_
      rintro e w4 ⟨rfl, hw4⟩
      have HP4 := Lib.hid (hw4 ▸ HP3.out)
      have HS34 : Hid (Same w3 w4) := Lib.hid (hw4 ▸ Chg.refl _ _)
      clear hw4
      go_wp2_with fail
      have hq := quorum_arg w4 k _ _ HP4.out.2.2.2.2 (fun _ h => by cases h) (by simp only [List.length_nil]; omega)
      have HK := Lib.hid hq
      clear hq
      refine HK.out.mono ?_
      rintro e w5 ⟨rfl, hC5⟩
      have HC5 := Lib.hid hC5
      clear hC5 HK
      have HS3 : Hid (Same w w5) := Lib.hid ((HSM.out.trans (HP3.out.2.2.2.1.trans HS34.out)).trans HC5.out)
      go_wp2_with fail
      have bJ : Blk (w5.alloc (.cells #[.pointer none, .pointer none, .slice none 0 0] 41)) w5.heap.size #[.pointer none, .pointer none, .slice none 0 0] 41 := Blk.new _ _ _
      have sJ : Same w5 (w5.alloc (.cells #[.pointer none, .pointer none, .slice none 0 0] 41)) := (Chg.refl _ _).alloc _
      generalize w5.alloc (.cells #[.pointer none, .pointer none, .slice none 0 0] 41) = W4 at *
      generalize w5.heap.size = bj at *
      refine (joint_values_none _).mono ?_
      rintro e _ ⟨rfl, rfl⟩
      go_wp2_with fail
      refine (joint_values_bare _ _ _ _ bJ).mono ?_
      rintro e _ ⟨rfl, rfl⟩
      go_wp2_with fail
      refine (joint_future_none _).mono ?_
      rintro e _ ⟨rfl, rfl⟩
      go_wp2_with fail
      refine (joint_future _ _ _ _ _ none bJ rfl).mono ?_
      rintro e _ ⟨rfl, rfl⟩
      have hE4 : ErrType W4 ∧ 0 < W4.heap.size := ⟨HE.out.1.same ((HS3.out).trans sJ) HE.out.2, by have := HE.out.2; have := ((HS3.out).trans sJ).size; omega⟩
      have HSJ := Lib.hid sJ
      have HS4 := Lib.hid ((HS3.out).trans sJ)
      clear bJ sJ
      have HE4 := Lib.hid hE4
      clear hE4
      go_wp2_with fail
      refine (class_any (l := []) (B := some (.errno 2)) W4 rfl HE4.out.1 HE4.out.2).mono ?_
      rintro e W5 ⟨rfl, s5⟩
      have HS5 := Lib.hid s5
      clear s5
      go_wp2_with fail
      refine (class_any (l := []) (B := some (.errno 2)) W5 rfl (HE4.out.1.same HS5.out HE4.out.2) (by have := HE4.out.2; have := HS5.out.size; omega)).mono ?_
      rintro e W6 ⟨rfl, s6⟩
      have HS6 := Lib.hid ((HS4.out.trans HS5.out).trans s6)
      have HS36 := Lib.hid ((HSJ.out.trans HS5.out).trans s6)
      clear s6
      go_wp2_with fail
      have s36 : Same w3 W6 := (HS34.out.trans HC5.out).trans HS36.out
      have hj6 := s36.blk HP3.out.1 (fun x => x)
      have hA6 := HP3.out.2.1.chg s36 (fun x => x) (fun x => x) (fun x => x) (fun x => x) (fun x => x) (fun x => x)
      have HZ := Lib.hid (And.intro hj6 hA6)
      clear hj6 hA6 s36
      refine (joint_future _ _ _ _ _ _ HZ.out.1 rfl).mono ?_
      rintro e _ ⟨rfl, rfl⟩
      go_wp2_with fail
      refine (fut_peek HZ.out.2 HP3.out.2.2.1).mono ?_
      rintro e W65 ⟨rfl, s65⟩
      have HS65 := Lib.hid s65
      clear s65
      go_wp2_with fail
      refine (fut_none_peek _ none (.inl rfl)).mono ?_
      rintro e W7 ⟨rfl, hw7⟩
      have HS7 := Lib.hid (hw7 ▸ HS6.out.trans HS65.out)
      clear hw7
      go_wp2_with fail
      refine (works16 W7).mono ?_
      rintro e W8 ⟨rfl, s8⟩
      have HS8 := Lib.hid (HS7.out.trans s8)
      clear s8
      go_wp2_with fail
      go_ret
      exact ⟨rfl, HS8.out⟩
theorem joinNone_n_big (many k nobody : Int) (n : Nat) (w : World) (hn : n ≤ 5) (hat : ∀ w, Calls Tryz.prog 9 #[.int .i64 many, .int .i64 6] w fun e w' => e = .returned (.int .i64 n) ∧ w = w') (hpos : n = 0) (hk1 : 0 < k) (hg : ErrType w) (hl : 0 < w.heap.size) :
    Calls Tryz.prog 3 #[.int .i64 many, .int .i64 k, .int .i64 nobody] w fun e w' => e = .returned (.bool true) ∧ Same w w' := by
  have hcall := Lib.hid (hat w)
  have HE := Lib.hid (And.intro hg hl)
  obtain ⟨i0, hi, hz0, hz1, hz2⟩ := info_parts (P := Tryz.prog) (e := 24) (z := .pointer none) (size := 1) (bytes := 8) (by kernel_rfl)
  clear hat hg hl
  go_enter Tryz.func3, Tryz.ntmps3
  go_wp2_with fail
  refine hcall.out.mono ?_
  rintro e _ ⟨rfl, rfl⟩
  clear hcall
  go_wp2_with fail
  go_loopw [7, 8] (fun v i wr => ∃ rs : List FR, rs.length ≤ n ∧ i = .int .i64 rs.length ∧ FRow w wr v rs) (fun _ i _ => n - (intOf i).toNat)
  case atStart => exact ⟨[], by simp, rfl, FRow.nil w⟩
  case round =>
    obtain ⟨rs, hrs, rfl, hrow⟩ := hrel
    rename World => wr
    have HR := Lib.hid hrow
    by_cases hlt : rs.length < n
    · omega
    · obtain rfl : rs.length = n := by omega
      clear hrow
      obtain rfl : rs = [] := List.eq_nil_of_length_eq_zero (by omega)
      have hrow := HR.out
      have hP := hrow.ptrs (by simp)
      have hA := all_open wr _ [] (fun _ => []) (fun _ => by simp) hP hrow.apart (fun j hj => by simp at hj) (fun _ _ _ _ h => absurd rfl h)
      have HSM := Lib.hid hrow.same
      have HP := Lib.hid hP
      obtain ⟨p, cap, rfl⟩ := hP.slice
      simp only [List.length_nil, List.map_nil] at *
      have HA := Lib.hid hA
      clear hrow hP hA
      go_wp2_with fail
      refine HA.out.mono ?_
      rintro e w3 ⟨_, hpost⟩
      obtain ⟨g1, kj, left, ends, st1, la1, v1, pl1, rfl, hJ, hF1, hst1, hg1, hkj, s3⟩ := hpost rfl
      have hP3 := HP.out.same s3
      have HP3 := Lib.hid (And.intro hJ (And.intro hF1 (And.intro hst1 (And.intro s3 hP3))))
      clear hpost hJ hF1 hst1 hg1 hkj s3 hP3 HA
      go_wp2_with fail
      refine (any_empty w3 _ HP3.out.2.2.2.2).mono ?_
      rintro e w4 ⟨rfl, hw4⟩
      have HP4 := Lib.hid (hw4 ▸ HP3.out)
      have HS34 : Hid (Same w3 w4) := Lib.hid (hw4 ▸ Chg.refl _ _)
      clear hw4
      go_wp2_with fail
      have hq := quorum_arg w4 k _ _ HP4.out.2.2.2.2 (fun _ h => by cases h) (by simp only [List.length_nil]; omega)
      have HK := Lib.hid hq
      clear hq
      refine HK.out.mono ?_
      rintro e w5 ⟨rfl, hC5⟩
      have HC5 := Lib.hid hC5
      clear hC5 HK
      have HS3 : Hid (Same w w5) := Lib.hid ((HSM.out.trans (HP3.out.2.2.2.1.trans HS34.out)).trans HC5.out)
      go_wp2_with fail
      have bJ : Blk (w5.alloc (.cells #[.pointer none, .pointer none, .slice none 0 0] 41)) w5.heap.size #[.pointer none, .pointer none, .slice none 0 0] 41 := Blk.new _ _ _
      have sJ : Same w5 (w5.alloc (.cells #[.pointer none, .pointer none, .slice none 0 0] 41)) := (Chg.refl _ _).alloc _
      generalize w5.alloc (.cells #[.pointer none, .pointer none, .slice none 0 0] 41) = W4 at *
      generalize w5.heap.size = bj at *
      refine (joint_values_none _).mono ?_
      rintro e _ ⟨rfl, rfl⟩
      go_wp2_with fail
      refine (joint_values_bare _ _ _ _ bJ).mono ?_
      rintro e _ ⟨rfl, rfl⟩
      go_wp2_with fail
      refine (joint_future_none _).mono ?_
      rintro e _ ⟨rfl, rfl⟩
      go_wp2_with fail
      refine (joint_future _ _ _ _ _ none bJ rfl).mono ?_
      rintro e _ ⟨rfl, rfl⟩
      have hE4 : ErrType W4 ∧ 0 < W4.heap.size := ⟨HE.out.1.same ((HS3.out).trans sJ) HE.out.2, by have := HE.out.2; have := ((HS3.out).trans sJ).size; omega⟩
      have HSJ := Lib.hid sJ
      have HS4 := Lib.hid ((HS3.out).trans sJ)
      clear bJ sJ
      have HE4 := Lib.hid hE4
      clear hE4
      go_wp2_with fail
      refine (class_any (l := []) (B := some (.errno 2)) W4 rfl HE4.out.1 HE4.out.2).mono ?_
      rintro e W5 ⟨rfl, s5⟩
      have HS5 := Lib.hid s5
      clear s5
      go_wp2_with fail
      refine (class_any (l := []) (B := some (.errno 2)) W5 rfl (HE4.out.1.same HS5.out HE4.out.2) (by have := HE4.out.2; have := HS5.out.size; omega)).mono ?_
      rintro e W6 ⟨rfl, s6⟩
      have HS6 := Lib.hid ((HS4.out.trans HS5.out).trans s6)
      have HS36 := Lib.hid ((HSJ.out.trans HS5.out).trans s6)
      clear s6
      go_wp2_with fail
      have s36 : Same w3 W6 := (HS34.out.trans HC5.out).trans HS36.out
      have hj6 := s36.blk HP3.out.1 (fun x => x)
      have hA6 := HP3.out.2.1.chg s36 (fun x => x) (fun x => x) (fun x => x) (fun x => x) (fun x => x) (fun x => x)
      have HZ := Lib.hid (And.intro hj6 hA6)
      clear hj6 hA6 s36
      refine (joint_future _ _ _ _ _ _ HZ.out.1 rfl).mono ?_
      rintro e _ ⟨rfl, rfl⟩
      go_wp2_with fail
      refine (fut_peek HZ.out.2 HP3.out.2.2.1).mono ?_
      rintro e W65 ⟨rfl, s65⟩
      have HS65 := Lib.hid s65
      clear s65
      go_wp2_with fail
      refine (fut_none_peek _ none (.inl rfl)).mono ?_
      rintro e W7 ⟨rfl, hw7⟩
      have HS7 := Lib.hid (hw7 ▸ HS6.out.trans HS65.out)
      clear hw7
      go_wp2_with fail
      refine (works16 W7).mono ?_
      rintro e W8 ⟨rfl, s8⟩
      have HS8 := Lib.hid (HS7.out.trans s8)
      clear s8
      go_wp2_with fail
      go_ret
      exact ⟨rfl, HS8.out⟩
theorem joinNone_n_zero (many nobody : Int) (n : Nat) (w : World) (hn : n ≤ 5) (hat : ∀ w, Calls Tryz.prog 9 #[.int .i64 many, .int .i64 6] w fun e w' => e = .returned (.int .i64 n) ∧ w = w') (hpos : n = 0)  (hg : ErrType w) (hl : 0 < w.heap.size) :
    Calls Tryz.prog 3 #[.int .i64 many, .int .i64 0, .int .i64 nobody] w fun e w' => e = .returned (.bool true) ∧ Same w w' := by
  have hcall := Lib.hid (hat w)
  have HE := Lib.hid (And.intro hg hl)
  obtain ⟨i0, hi, hz0, hz1, hz2⟩ := info_parts (P := Tryz.prog) (e := 24) (z := .pointer none) (size := 1) (bytes := 8) (by kernel_rfl)
  clear hat hg hl
  go_enter Tryz.func3, Tryz.ntmps3
  go_wp2_with fail
  refine hcall.out.mono ?_
  rintro e _ ⟨rfl, rfl⟩
  clear hcall
  go_wp2_with fail
  go_loopw [7, 8] (fun v i wr => ∃ rs : List FR, rs.length ≤ n ∧ i = .int .i64 rs.length ∧ FRow w wr v rs) (fun _ i _ => n - (intOf i).toNat)
  case atStart => exact ⟨[], by simp, rfl, FRow.nil w⟩
  case round =>
    obtain ⟨rs, hrs, rfl, hrow⟩ := hrel
    rename World => wr
    have HR := Lib.hid hrow
    by_cases hlt : rs.length < n
    · omega
    · obtain rfl : rs.length = n := by omega
      clear hrow
      obtain rfl : rs = [] := List.eq_nil_of_length_eq_zero (by omega)
      have hrow := HR.out
      have hP := hrow.ptrs (by simp)
      have hA := all_open wr _ [] (fun _ => []) (fun _ => by simp) hP hrow.apart (fun j hj => by simp at hj) (fun _ _ _ _ h => absurd rfl h)
      have HSM := Lib.hid hrow.same
      have HP := Lib.hid hP
      obtain ⟨p, cap, rfl⟩ := hP.slice
      simp only [List.length_nil, List.map_nil] at *
      have HA := Lib.hid hA
      clear hrow hP hA
      go_wp2_with fail
      refine HA.out.mono ?_
      rintro e w3 ⟨_, hpost⟩
      obtain ⟨g1, kj, left, ends, st1, la1, v1, pl1, rfl, hJ, hF1, hst1, hg1, hkj, s3⟩ := hpost rfl
      have hP3 := HP.out.same s3
      have HP3 := Lib.hid (And.intro hJ (And.intro hF1 (And.intro hst1 (And.intro s3 hP3))))
      clear hpost hJ hF1 hst1 hg1 hkj s3 hP3 HA
      go_wp2_with fail
      refine (any_empty w3 _ HP3.out.2.2.2.2).mono ?_
      rintro e w4 ⟨rfl, hw4⟩
      have HP4 := Lib.hid (hw4 ▸ HP3.out)
      have HS34 : Hid (Same w3 w4) := Lib.hid (hw4 ▸ Chg.refl _ _)
      clear hw4
      go_wp2_with fail
      have hq := quorum_zero w4 _ _ HP4.out.2.2.2.2 (fun _ h => by cases h)
      have HK := Lib.hid hq
      clear hq
      refine HK.out.mono ?_
      rintro e w5 ⟨g3, v3, st3, la3, pl3, rfl, hF3, hst3, hg3, hC5⟩
      have HC5 := Lib.hid hC5
      have HP5 := Lib.hid (And.intro hF3 hst3)
      clear hF3 hst3 hg3 hC5 HK
      have HS3 : Hid (Same w w5) := Lib.hid ((HSM.out.trans (HP3.out.2.2.2.1.trans HS34.out)).trans HC5.out)
      go_wp2_with fail
      have bJ : Blk (w5.alloc (.cells #[.pointer none, .pointer none, .slice none 0 0] 41)) w5.heap.size #[.pointer none, .pointer none, .slice none 0 0] 41 := Blk.new _ _ _
      have sJ : Same w5 (w5.alloc (.cells #[.pointer none, .pointer none, .slice none 0 0] 41)) := (Chg.refl _ _).alloc _
      generalize w5.alloc (.cells #[.pointer none, .pointer none, .slice none 0 0] 41) = W4 at *
      generalize w5.heap.size = bj at *
      refine (joint_values_none _).mono ?_
      rintro e _ ⟨rfl, rfl⟩
      go_wp2_with fail
      refine (joint_values_bare _ _ _ _ bJ).mono ?_
      rintro e _ ⟨rfl, rfl⟩
      go_wp2_with fail
      refine (joint_future_none _).mono ?_
      rintro e _ ⟨rfl, rfl⟩
      go_wp2_with fail
      refine (joint_future _ _ _ _ _ none bJ rfl).mono ?_
      rintro e _ ⟨rfl, rfl⟩
      have hE4 : ErrType W4 ∧ 0 < W4.heap.size := ⟨HE.out.1.same ((HS3.out).trans sJ) HE.out.2, by have := HE.out.2; have := ((HS3.out).trans sJ).size; omega⟩
      have HSJ := Lib.hid sJ
      have HS4 := Lib.hid ((HS3.out).trans sJ)
      clear bJ sJ
      have HE4 := Lib.hid hE4
      clear hE4
      go_wp2_with fail
      refine (class_any (l := []) (B := some (.errno 2)) W4 rfl HE4.out.1 HE4.out.2).mono ?_
      rintro e W5 ⟨rfl, s5⟩
      have HS5 := Lib.hid s5
      clear s5
      go_wp2_with fail
      refine (class_any (l := []) (B := some (.errno 2)) W5 rfl (HE4.out.1.same HS5.out HE4.out.2) (by have := HE4.out.2; have := HS5.out.size; omega)).mono ?_
      rintro e W6 ⟨rfl, s6⟩
      have HS6 := Lib.hid ((HS4.out.trans HS5.out).trans s6)
      have HS36 := Lib.hid ((HSJ.out.trans HS5.out).trans s6)
      clear s6
      go_wp2_with fail
      have s36 : Same w3 W6 := (HS34.out.trans HC5.out).trans HS36.out
      have hj6 := s36.blk HP3.out.1 (fun x => x)
      have hA6 := HP3.out.2.1.chg s36 (fun x => x) (fun x => x) (fun x => x) (fun x => x) (fun x => x) (fun x => x)
      have HZ := Lib.hid (And.intro hj6 hA6)
      clear hj6 hA6 s36
      refine (joint_future _ _ _ _ _ _ HZ.out.1 rfl).mono ?_
      rintro e _ ⟨rfl, rfl⟩
      go_wp2_with fail
      refine (fut_peek HZ.out.2 HP3.out.2.2.1).mono ?_
      rintro e W65 ⟨rfl, s65⟩
      have HS65 := Lib.hid s65
      clear s65
      go_wp2_with fail
      have hA7 := HP5.out.1.chg (HS36.out.trans HS65.out) (fun x => x) (fun x => x) (fun x => x) (fun x => x) (fun x => x) (fun x => x)
      have HA7 := Lib.hid hA7
      clear hA7
      refine (fut_peek HA7.out HP5.out.2).mono ?_
      rintro e W7 ⟨rfl, hw7⟩
      have HS7 := Lib.hid ((HS6.out.trans HS65.out).trans hw7)
      clear hw7
      go_wp2_with fail
      refine (works16 W7).mono ?_
      rintro e W8 ⟨rfl, s8⟩
      have HS8 := Lib.hid (HS7.out.trans s8)
      clear s8
      go_wp2_with fail
      go_ret
      exact ⟨rfl, HS8.out⟩
end Go.Proofs.YtgljjgmfhememaaGreatDoor
