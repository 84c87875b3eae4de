/- memo.Place and the reference's Power and Place. Conditions: math/bits.deBruijn64tab holds what the program lays. -/
import Derived.Test.YtgdjbfcdkibdbaaGreatDoorTz
import Derived.LoopTactic
namespace Go.Proofs.YtgdjbfcdkibdbaaGreatDoor
open Go Go.RowKit
set_option maxRecDepth 100000
set_option maxHeartbeats 1000000
/-- The powers, by their exponents. -/
def pw : Nat → Int
  | 0 => 1 | 1 => 2 | 2 => 4 | 3 => 8 | 4 => 16 | 5 => 32 | 6 => 64 | 7 => 128 | 8 => 256 | 9 => 512 | 10 => 1024 | 11 => 2048 | 12 => 4096 | _ => 8192
theorem pw_range (j : Nat) (h : j ≤ 13) : 1 ≤ pw j ∧ pw j ≤ 8192 := by
  obtain h | h | h | h | h | h | h | h | h | h | h | h | h | h : j = 0 ∨ j = 1 ∨ j = 2 ∨ j = 3 ∨ j = 4 ∨ j = 5 ∨ j = 6 ∨ j = 7 ∨ j = 8 ∨ j = 9 ∨ j = 10 ∨ j = 11 ∨ j = 12 ∨ j = 13 := by omega
  all_goals (subst h; decide)
theorem pw_succ (j : Nat) (h : j ≤ 12) : pw (j + 1) = 2 * pw j := by
  obtain h | h | h | h | h | h | h | h | h | h | h | h | h : j = 0 ∨ j = 1 ∨ j = 2 ∨ j = 3 ∨ j = 4 ∨ j = 5 ∨ j = 6 ∨ j = 7 ∨ j = 8 ∨ j = 9 ∨ j = 10 ∨ j = 11 ∨ j = 12 := by omega
  all_goals (subst h; decide)
theorem pw_le (j : Nat) (h : j ≤ 13) : pw j ≤ 4096 ↔ j ≤ 12 := by
  obtain h | h | h | h | h | h | h | h | h | h | h | h | h | h : j = 0 ∨ j = 1 ∨ j = 2 ∨ j = 3 ∨ j = 4 ∨ j = 5 ∨ j = 6 ∨ j = 7 ∨ j = 8 ∨ j = 9 ∨ j = 10 ∨ j = 11 ∨ j = 12 ∨ j = 13 := by omega
  all_goals (subst h; decide)
theorem pw_mem (s : Int) : s ∈ powers ↔ ∃ j, j ≤ 12 ∧ s = pw j := by
  constructor
  · intro h
    simp [powers] at h
    obtain h | h | h | h | h | h | h | h | h | h | h | h | h := h
    · exact ⟨0, by omega, h⟩
    · exact ⟨1, by omega, h⟩
    · exact ⟨2, by omega, h⟩
    · exact ⟨3, by omega, h⟩
    · exact ⟨4, by omega, h⟩
    · exact ⟨5, by omega, h⟩
    · exact ⟨6, by omega, h⟩
    · exact ⟨7, by omega, h⟩
    · exact ⟨8, by omega, h⟩
    · exact ⟨9, by omega, h⟩
    · exact ⟨10, by omega, h⟩
    · exact ⟨11, by omega, h⟩
    · exact ⟨12, by omega, h⟩
  · rintro ⟨j, h, rfl⟩
    obtain h | h | h | h | h | h | h | h | h | h | h | h | h : j = 0 ∨ j = 1 ∨ j = 2 ∨ j = 3 ∨ j = 4 ∨ j = 5 ∨ j = 6 ∨ j = 7 ∨ j = 8 ∨ j = 9 ∨ j = 10 ∨ j = 11 ∨ j = 12 := by omega
    all_goals (subst h; decide)
theorem refPower_yes (s : Int) (h : s ∈ powers) (w : World) : Calls Tryz.prog 13 #[.int .i64 s] w fun e w' => e = .returned (.bool true) ∧ w = w' := by
  obtain ⟨k, hk, rfl⟩ := (pw_mem s).1 h
  clear h
  have hkr := pw_range k (by omega)
  go_enter Tryz.func13, Tryz.ntmps13
  go_wp2_with fail
  go_loop [3] (fun n => ∃ j : Nat, j ≤ k ∧ n = .int .i64 (pw j)) (fun n => (8192 - intOf n).toNat)
  case atStart => exact ⟨0, by omega, rfl⟩
  case round =>
    obtain ⟨j, hj, rfl⟩ := hrel
    have hjr := pw_range j (by omega)
    have hjl := (pw_le j (by omega)).2 (by omega)
    by_cases e : j = k
    · subst e
      generalize pw j = q at *
      go_wp2_with fail
      go_ret
      exact ⟨rfl, rfl⟩
    · have hne : ¬ pw k = pw j := by
        intro h
        have : j < k := by omega
        have mono : ∀ a b : Nat, a < b → b ≤ 12 → pw a < pw b := by
          intro a b hab
          induction b with
          | zero => omega
          | succ b ih =>
            intro hb
            have h1 := pw_succ b (by omega)
            have h2 := pw_range b (by omega)
            by_cases e : a = b
            · subst e; omega
            · have := ih (by omega) (by omega); omega
        have := mono j k this hk
        omega
      have hs := pw_succ j (by omega)
      have hs' := Lib.hid hs
      clear hs
      generalize hP : pw k = P at *
      have hP' := Lib.hid hP
      clear hP
      have g := pw_range (j + 1) (by omega)
      generalize hq : pw j = q at *
      have hq' := Lib.hid hq
      clear hq
      go_wp2_with fail
      go_round
      case rel => exact ⟨j + 1, by omega, by rw [hs'.out]⟩
      case measure => simp [intOf]; omega
theorem refPower_no (s : Int) (h : ¬ s ∈ powers) (w : World) : Calls Tryz.prog 13 #[.int .i64 s] w fun e w' => e = .returned (.bool false) ∧ w = w' := by
  have hn : ∀ j, j ≤ 12 → ¬ s = pw j := fun j hj e => h ((pw_mem s).2 ⟨j, hj, e⟩)
  have hn' := Lib.hid hn
  clear h hn
  go_enter Tryz.func13, Tryz.ntmps13
  go_wp2_with fail
  go_loop [3] (fun n => ∃ j : Nat, j ≤ 13 ∧ n = .int .i64 (pw j)) (fun n => (8192 - intOf n).toNat)
  case atStart => exact ⟨0, by omega, rfl⟩
  case round =>
    obtain ⟨j, hj, rfl⟩ := hrel
    have hjr := pw_range j (by omega)
    by_cases e : j = 13
    · subst e
      have : pw 13 = 8192 := rfl
      rw [this] at *
      go_wp2_with fail
      go_ret
      exact ⟨rfl, rfl⟩
    · have hjl := (pw_le j (by omega)).2 (by omega)
      have hne := hn'.out j (by omega)
      have hs := pw_succ j (by omega)
      have hs' := Lib.hid hs
      clear hs
      have g := pw_range (j + 1) (by omega)
      generalize hq : pw j = q at *
      have hq' := Lib.hid hq
      clear hq
      go_wp2_with fail
      go_round
      case rel => exact ⟨j + 1, by omega, by rw [hs'.out]⟩
      case measure => simp [intOf]; omega
/-- A key's place. -/
def zOf (key : Int) : Int := IntKind.u64.wrap (key * 11400714819323198485)
theorem zOf_range (key : Int) : 0 ≤ zOf key ∧ zOf key < 18446744073709551616 := by
  unfold zOf
  rw [IntKind.wrap_u64]
  omega
def placeOf (k : Nat) (key : Int) : Int := zOf key / (18446744073709551616 / pw k)
theorem place_0 (key : Int) (h0 : 0 ≤ key) (h1 : key ≤ 9223372036854775807) (w : World) (ht : Tab w) : Calls Tryz.prog 10 #[.int .i64 key, .int .i64 1] w fun e w' => e = .returned (.int .i64 (placeOf 0 key)) ∧ w = w' := by
  have hz := zOf_range key
  have he : wrap64 (IntKind.u64.wrap (key * 11400714819323198485) / 2 / 9223372036854775808) = placeOf 0 key := by
    show wrap64 (zOf key / 2 / 9223372036854775808) = zOf key / (18446744073709551616 / pw 0)
    have : (18446744073709551616 : Int) / pw 0 = 2 * 9223372036854775808 := by decide
    rw [this]
    generalize zOf key = Z at *
    unfold wrap64
    omega
  have he' := Lib.hid he
  clear he hz
  go_enter Tryz.func10, Tryz.ntmps10
  go_wp2_with fail
  refine (power_yes 1 (by decide) w).mono ?_
  rintro e w' ⟨rfl, rfl⟩
  go_wp2_with fail
  refine (tz_0 w ht).mono ?_
  rintro e w' ⟨rfl, rfl⟩
  go_wp2_with fail
  go_ret
  exact ⟨by rw [← he'.out]; rfl, rfl⟩
theorem place_1 (key : Int) (h0 : 0 ≤ key) (h1 : key ≤ 9223372036854775807) (w : World) (ht : Tab w) : Calls Tryz.prog 10 #[.int .i64 key, .int .i64 2] w fun e w' => e = .returned (.int .i64 (placeOf 1 key)) ∧ w = w' := by
  have hz := zOf_range key
  have he : wrap64 (IntKind.u64.wrap (key * 11400714819323198485) / 2 / 4611686018427387904) = placeOf 1 key := by
    show wrap64 (zOf key / 2 / 4611686018427387904) = zOf key / (18446744073709551616 / pw 1)
    have : (18446744073709551616 : Int) / pw 1 = 2 * 4611686018427387904 := by decide
    rw [this]
    generalize zOf key = Z at *
    unfold wrap64
    omega
  have he' := Lib.hid he
  clear he hz
  go_enter Tryz.func10, Tryz.ntmps10
  go_wp2_with fail
  refine (power_yes 2 (by decide) w).mono ?_
  rintro e w' ⟨rfl, rfl⟩
  go_wp2_with fail
  refine (tz_1 w ht).mono ?_
  rintro e w' ⟨rfl, rfl⟩
  go_wp2_with fail
  go_ret
  exact ⟨by rw [← he'.out]; rfl, rfl⟩
theorem place_2 (key : Int) (h0 : 0 ≤ key) (h1 : key ≤ 9223372036854775807) (w : World) (ht : Tab w) : Calls Tryz.prog 10 #[.int .i64 key, .int .i64 4] w fun e w' => e = .returned (.int .i64 (placeOf 2 key)) ∧ w = w' := by
  have hz := zOf_range key
  have he : wrap64 (IntKind.u64.wrap (key * 11400714819323198485) / 2 / 2305843009213693952) = placeOf 2 key := by
    show wrap64 (zOf key / 2 / 2305843009213693952) = zOf key / (18446744073709551616 / pw 2)
    have : (18446744073709551616 : Int) / pw 2 = 2 * 2305843009213693952 := by decide
    rw [this]
    generalize zOf key = Z at *
    unfold wrap64
    omega
  have he' := Lib.hid he
  clear he hz
  go_enter Tryz.func10, Tryz.ntmps10
  go_wp2_with fail
  refine (power_yes 4 (by decide) w).mono ?_
  rintro e w' ⟨rfl, rfl⟩
  go_wp2_with fail
  refine (tz_2 w ht).mono ?_
  rintro e w' ⟨rfl, rfl⟩
  go_wp2_with fail
  go_ret
  exact ⟨by rw [← he'.out]; rfl, rfl⟩
theorem place_3 (key : Int) (h0 : 0 ≤ key) (h1 : key ≤ 9223372036854775807) (w : World) (ht : Tab w) : Calls Tryz.prog 10 #[.int .i64 key, .int .i64 8] w fun e w' => e = .returned (.int .i64 (placeOf 3 key)) ∧ w = w' := by
  have hz := zOf_range key
  have he : wrap64 (IntKind.u64.wrap (key * 11400714819323198485) / 2 / 1152921504606846976) = placeOf 3 key := by
    show wrap64 (zOf key / 2 / 1152921504606846976) = zOf key / (18446744073709551616 / pw 3)
    have : (18446744073709551616 : Int) / pw 3 = 2 * 1152921504606846976 := by decide
    rw [this]
    generalize zOf key = Z at *
    unfold wrap64
    omega
  have he' := Lib.hid he
  clear he hz
  go_enter Tryz.func10, Tryz.ntmps10
  go_wp2_with fail
  refine (power_yes 8 (by decide) w).mono ?_
  rintro e w' ⟨rfl, rfl⟩
  go_wp2_with fail
  refine (tz_3 w ht).mono ?_
  rintro e w' ⟨rfl, rfl⟩
  go_wp2_with fail
  go_ret
  exact ⟨by rw [← he'.out]; rfl, rfl⟩
theorem place_4 (key : Int) (h0 : 0 ≤ key) (h1 : key ≤ 9223372036854775807) (w : World) (ht : Tab w) : Calls Tryz.prog 10 #[.int .i64 key, .int .i64 16] w fun e w' => e = .returned (.int .i64 (placeOf 4 key)) ∧ w = w' := by
  have hz := zOf_range key
  have he : wrap64 (IntKind.u64.wrap (key * 11400714819323198485) / 2 / 576460752303423488) = placeOf 4 key := by
    show wrap64 (zOf key / 2 / 576460752303423488) = zOf key / (18446744073709551616 / pw 4)
    have : (18446744073709551616 : Int) / pw 4 = 2 * 576460752303423488 := by decide
    rw [this]
    generalize zOf key = Z at *
    unfold wrap64
    omega
  have he' := Lib.hid he
  clear he hz
  go_enter Tryz.func10, Tryz.ntmps10
  go_wp2_with fail
  refine (power_yes 16 (by decide) w).mono ?_
  rintro e w' ⟨rfl, rfl⟩
  go_wp2_with fail
  refine (tz_4 w ht).mono ?_
  rintro e w' ⟨rfl, rfl⟩
  go_wp2_with fail
  go_ret
  exact ⟨by rw [← he'.out]; rfl, rfl⟩
theorem place_5 (key : Int) (h0 : 0 ≤ key) (h1 : key ≤ 9223372036854775807) (w : World) (ht : Tab w) : Calls Tryz.prog 10 #[.int .i64 key, .int .i64 32] w fun e w' => e = .returned (.int .i64 (placeOf 5 key)) ∧ w = w' := by
  have hz := zOf_range key
  have he : wrap64 (IntKind.u64.wrap (key * 11400714819323198485) / 2 / 288230376151711744) = placeOf 5 key := by
    show wrap64 (zOf key / 2 / 288230376151711744) = zOf key / (18446744073709551616 / pw 5)
    have : (18446744073709551616 : Int) / pw 5 = 2 * 288230376151711744 := by decide
    rw [this]
    generalize zOf key = Z at *
    unfold wrap64
    omega
  have he' := Lib.hid he
  clear he hz
  go_enter Tryz.func10, Tryz.ntmps10
  go_wp2_with fail
  refine (power_yes 32 (by decide) w).mono ?_
  rintro e w' ⟨rfl, rfl⟩
  go_wp2_with fail
  refine (tz_5 w ht).mono ?_
  rintro e w' ⟨rfl, rfl⟩
  go_wp2_with fail
  go_ret
  exact ⟨by rw [← he'.out]; rfl, rfl⟩
theorem place_6 (key : Int) (h0 : 0 ≤ key) (h1 : key ≤ 9223372036854775807) (w : World) (ht : Tab w) : Calls Tryz.prog 10 #[.int .i64 key, .int .i64 64] w fun e w' => e = .returned (.int .i64 (placeOf 6 key)) ∧ w = w' := by
  have hz := zOf_range key
  have he : wrap64 (IntKind.u64.wrap (key * 11400714819323198485) / 2 / 144115188075855872) = placeOf 6 key := by
    show wrap64 (zOf key / 2 / 144115188075855872) = zOf key / (18446744073709551616 / pw 6)
    have : (18446744073709551616 : Int) / pw 6 = 2 * 144115188075855872 := by decide
    rw [this]
    generalize zOf key = Z at *
    unfold wrap64
    omega
  have he' := Lib.hid he
  clear he hz
  go_enter Tryz.func10, Tryz.ntmps10
  go_wp2_with fail
  refine (power_yes 64 (by decide) w).mono ?_
  rintro e w' ⟨rfl, rfl⟩
  go_wp2_with fail
  refine (tz_6 w ht).mono ?_
  rintro e w' ⟨rfl, rfl⟩
  go_wp2_with fail
  go_ret
  exact ⟨by rw [← he'.out]; rfl, rfl⟩
theorem place_7 (key : Int) (h0 : 0 ≤ key) (h1 : key ≤ 9223372036854775807) (w : World) (ht : Tab w) : Calls Tryz.prog 10 #[.int .i64 key, .int .i64 128] w fun e w' => e = .returned (.int .i64 (placeOf 7 key)) ∧ w = w' := by
  have hz := zOf_range key
  have he : wrap64 (IntKind.u64.wrap (key * 11400714819323198485) / 2 / 72057594037927936) = placeOf 7 key := by
    show wrap64 (zOf key / 2 / 72057594037927936) = zOf key / (18446744073709551616 / pw 7)
    have : (18446744073709551616 : Int) / pw 7 = 2 * 72057594037927936 := by decide
    rw [this]
    generalize zOf key = Z at *
    unfold wrap64
    omega
  have he' := Lib.hid he
  clear he hz
  go_enter Tryz.func10, Tryz.ntmps10
  go_wp2_with fail
  refine (power_yes 128 (by decide) w).mono ?_
  rintro e w' ⟨rfl, rfl⟩
  go_wp2_with fail
  refine (tz_7 w ht).mono ?_
  rintro e w' ⟨rfl, rfl⟩
  go_wp2_with fail
  go_ret
  exact ⟨by rw [← he'.out]; rfl, rfl⟩
theorem place_8 (key : Int) (h0 : 0 ≤ key) (h1 : key ≤ 9223372036854775807) (w : World) (ht : Tab w) : Calls Tryz.prog 10 #[.int .i64 key, .int .i64 256] w fun e w' => e = .returned (.int .i64 (placeOf 8 key)) ∧ w = w' := by
  have hz := zOf_range key
  have he : wrap64 (IntKind.u64.wrap (key * 11400714819323198485) / 2 / 36028797018963968) = placeOf 8 key := by
    show wrap64 (zOf key / 2 / 36028797018963968) = zOf key / (18446744073709551616 / pw 8)
    have : (18446744073709551616 : Int) / pw 8 = 2 * 36028797018963968 := by decide
    rw [this]
    generalize zOf key = Z at *
    unfold wrap64
    omega
  have he' := Lib.hid he
  clear he hz
  go_enter Tryz.func10, Tryz.ntmps10
  go_wp2_with fail
  refine (power_yes 256 (by decide) w).mono ?_
  rintro e w' ⟨rfl, rfl⟩
  go_wp2_with fail
  refine (tz_8 w ht).mono ?_
  rintro e w' ⟨rfl, rfl⟩
  go_wp2_with fail
  go_ret
  exact ⟨by rw [← he'.out]; rfl, rfl⟩
theorem place_9 (key : Int) (h0 : 0 ≤ key) (h1 : key ≤ 9223372036854775807) (w : World) (ht : Tab w) : Calls Tryz.prog 10 #[.int .i64 key, .int .i64 512] w fun e w' => e = .returned (.int .i64 (placeOf 9 key)) ∧ w = w' := by
  have hz := zOf_range key
  have he : wrap64 (IntKind.u64.wrap (key * 11400714819323198485) / 2 / 18014398509481984) = placeOf 9 key := by
    show wrap64 (zOf key / 2 / 18014398509481984) = zOf key / (18446744073709551616 / pw 9)
    have : (18446744073709551616 : Int) / pw 9 = 2 * 18014398509481984 := by decide
    rw [this]
    generalize zOf key = Z at *
    unfold wrap64
    omega
  have he' := Lib.hid he
  clear he hz
  go_enter Tryz.func10, Tryz.ntmps10
  go_wp2_with fail
  refine (power_yes 512 (by decide) w).mono ?_
  rintro e w' ⟨rfl, rfl⟩
  go_wp2_with fail
  refine (tz_9 w ht).mono ?_
  rintro e w' ⟨rfl, rfl⟩
  go_wp2_with fail
  go_ret
  exact ⟨by rw [← he'.out]; rfl, rfl⟩
theorem place_10 (key : Int) (h0 : 0 ≤ key) (h1 : key ≤ 9223372036854775807) (w : World) (ht : Tab w) : Calls Tryz.prog 10 #[.int .i64 key, .int .i64 1024] w fun e w' => e = .returned (.int .i64 (placeOf 10 key)) ∧ w = w' := by
  have hz := zOf_range key
  have he : wrap64 (IntKind.u64.wrap (key * 11400714819323198485) / 2 / 9007199254740992) = placeOf 10 key := by
    show wrap64 (zOf key / 2 / 9007199254740992) = zOf key / (18446744073709551616 / pw 10)
    have : (18446744073709551616 : Int) / pw 10 = 2 * 9007199254740992 := by decide
    rw [this]
    generalize zOf key = Z at *
    unfold wrap64
    omega
  have he' := Lib.hid he
  clear he hz
  go_enter Tryz.func10, Tryz.ntmps10
  go_wp2_with fail
  refine (power_yes 1024 (by decide) w).mono ?_
  rintro e w' ⟨rfl, rfl⟩
  go_wp2_with fail
  refine (tz_10 w ht).mono ?_
  rintro e w' ⟨rfl, rfl⟩
  go_wp2_with fail
  go_ret
  exact ⟨by rw [← he'.out]; rfl, rfl⟩
theorem place_11 (key : Int) (h0 : 0 ≤ key) (h1 : key ≤ 9223372036854775807) (w : World) (ht : Tab w) : Calls Tryz.prog 10 #[.int .i64 key, .int .i64 2048] w fun e w' => e = .returned (.int .i64 (placeOf 11 key)) ∧ w = w' := by
  have hz := zOf_range key
  have he : wrap64 (IntKind.u64.wrap (key * 11400714819323198485) / 2 / 4503599627370496) = placeOf 11 key := by
    show wrap64 (zOf key / 2 / 4503599627370496) = zOf key / (18446744073709551616 / pw 11)
    have : (18446744073709551616 : Int) / pw 11 = 2 * 4503599627370496 := by decide
    rw [this]
    generalize zOf key = Z at *
    unfold wrap64
    omega
  have he' := Lib.hid he
  clear he hz
  go_enter Tryz.func10, Tryz.ntmps10
  go_wp2_with fail
  refine (power_yes 2048 (by decide) w).mono ?_
  rintro e w' ⟨rfl, rfl⟩
  go_wp2_with fail
  refine (tz_11 w ht).mono ?_
  rintro e w' ⟨rfl, rfl⟩
  go_wp2_with fail
  go_ret
  exact ⟨by rw [← he'.out]; rfl, rfl⟩
theorem place_12 (key : Int) (h0 : 0 ≤ key) (h1 : key ≤ 9223372036854775807) (w : World) (ht : Tab w) : Calls Tryz.prog 10 #[.int .i64 key, .int .i64 4096] w fun e w' => e = .returned (.int .i64 (placeOf 12 key)) ∧ w = w' := by
  have hz := zOf_range key
  have he : wrap64 (IntKind.u64.wrap (key * 11400714819323198485) / 2 / 2251799813685248) = placeOf 12 key := by
    show wrap64 (zOf key / 2 / 2251799813685248) = zOf key / (18446744073709551616 / pw 12)
    have : (18446744073709551616 : Int) / pw 12 = 2 * 2251799813685248 := by decide
    rw [this]
    generalize zOf key = Z at *
    unfold wrap64
    omega
  have he' := Lib.hid he
  clear he hz
  go_enter Tryz.func10, Tryz.ntmps10
  go_wp2_with fail
  refine (power_yes 4096 (by decide) w).mono ?_
  rintro e w' ⟨rfl, rfl⟩
  go_wp2_with fail
  refine (tz_12 w ht).mono ?_
  rintro e w' ⟨rfl, rfl⟩
  go_wp2_with fail
  go_ret
  exact ⟨by rw [← he'.out]; rfl, rfl⟩
theorem place_pow (key : Int) (h0 : 0 ≤ key) (h1 : key ≤ 9223372036854775807) (k : Nat) (hk : k ≤ 12) (w : World) (ht : Tab w) : Calls Tryz.prog 10 #[.int .i64 key, .int .i64 (pw k)] w fun e w' => e = .returned (.int .i64 (placeOf k key)) ∧ w = w' := by
  obtain h | h | h | h | h | h | h | h | h | h | h | h | h : k = 0 ∨ k = 1 ∨ k = 2 ∨ k = 3 ∨ k = 4 ∨ k = 5 ∨ k = 6 ∨ k = 7 ∨ k = 8 ∨ k = 9 ∨ k = 10 ∨ k = 11 ∨ k = 12 := by omega
  · subst h; exact place_0 key h0 h1 w ht
  · subst h; exact place_1 key h0 h1 w ht
  · subst h; exact place_2 key h0 h1 w ht
  · subst h; exact place_3 key h0 h1 w ht
  · subst h; exact place_4 key h0 h1 w ht
  · subst h; exact place_5 key h0 h1 w ht
  · subst h; exact place_6 key h0 h1 w ht
  · subst h; exact place_7 key h0 h1 w ht
  · subst h; exact place_8 key h0 h1 w ht
  · subst h; exact place_9 key h0 h1 w ht
  · subst h; exact place_10 key h0 h1 w ht
  · subst h; exact place_11 key h0 h1 w ht
  · subst h; exact place_12 key h0 h1 w ht
theorem place_step (j : Nat) (hj : j < 12) (Z : Int) (z0 : 0 ≤ Z) (z1 : Z < 18446744073709551616) :
    Z / (18446744073709551616 / pw (j + 1)) = 2 * (Z / (18446744073709551616 / pw j)) + Z * pw j % 18446744073709551616 / 9223372036854775808 ∧ Z * pw (j + 1) % 18446744073709551616 = (Z * pw j % 18446744073709551616) * 2 % 18446744073709551616 ∧
    0 ≤ Z / (18446744073709551616 / pw j) ∧ Z / (18446744073709551616 / pw j) ≤ 8192 := by
  obtain h | h | h | h | h | h | h | h | h | h | h | h : j = 0 ∨ j = 1 ∨ j = 2 ∨ j = 3 ∨ j = 4 ∨ j = 5 ∨ j = 6 ∨ j = 7 ∨ j = 8 ∨ j = 9 ∨ j = 10 ∨ j = 11 := by omega
  all_goals
    subst h
    simp only [pw]
    refine ⟨?_, ?_, ?_, ?_⟩ <;> omega
theorem rplace (key : Int) (h0 : 0 ≤ key) (h1 : key ≤ 9223372036854775807) (k : Nat) (hk : k ≤ 12) (w : World) : Calls Tryz.prog 11 #[.int .i64 key, .int .i64 (pw k)] w fun e w' => e = .returned (.int .i64 (placeOf k key)) ∧ w = w' := by
  have hkr := pw_range k (by omega)
  have hzr := zOf_range key
  have hzr' := Lib.hid hzr
  have mono : ∀ a b : Nat, a < b → b ≤ 12 → pw a < pw b := by
    intro a b hab
    induction b with
    | zero => omega
    | succ b ih =>
      intro hb
      have h1 := pw_succ b (by omega)
      have h2 := pw_range b (by omega)
      by_cases e : a = b
      · subst e; omega
      · have := ih (by omega) (by omega); omega
  have mono' := Lib.hid mono
  have ey : IntKind.u64.wrap (key * 11400714819323198485) = zOf key := rfl
  clear mono
  go_enter Tryz.func11, Tryz.ntmps11
  go_wp2_with fail
  refine (refPower_yes (pw k) ((pw_mem _).2 ⟨k, hk, rfl⟩) w).mono ?_
  rintro e w' ⟨rfl, rfl⟩
  go_wp2_with fail
  have hk' := Lib.hid hk
  generalize hZ : zOf key = Z at *
  have hZ' := Lib.hid hZ
  clear hZ ey
  go_loop [5, 6, 7] (fun z p n => ∃ j : Nat, j ≤ k ∧ z = .int .u64 (Z * pw j % 18446744073709551616) ∧ p = .int .i64 (Z / (18446744073709551616 / pw j)) ∧ n = .int .i64 (pw j)) (fun _ _ n => (8192 - intOf n).toNat)
  case atStart =>
    refine ⟨0, by omega, ?_, ?_, rfl⟩
    · have e : Z * pw 0 % 18446744073709551616 = Z := by show Z * 1 % _ = Z; omega
      rw [e]
    · have e : Z / (18446744073709551616 / pw 0) = 0 := by show Z / (18446744073709551616 / 1) = 0; omega
      rw [e]
  case round =>
    obtain ⟨j, hj, rfl, rfl, rfl⟩ := hrel
    have hjr := pw_range j (by have := hk'.out; omega)
    by_cases e : j = k
    · subst e
      have hfin : Z / (18446744073709551616 / pw j) = placeOf j key := by unfold placeOf; rw [hZ'.out]
      rw [hfin]
      generalize hr : placeOf j key = r at *
      have hr' := Lib.hid hr
      generalize Z * pw j % 18446744073709551616 = zz at *
      clear hfin hr
      go_wp2_with fail
      go_ret
      exact ⟨by rw [hr'.out]; rfl, rfl⟩
    · have hlt := mono'.out j k (by omega) hk'.out
      obtain ⟨e1, e2, e3, e4⟩ := place_step j (by have := hk'.out; omega) Z hzr'.out.1 hzr'.out.2
      have hs := pw_succ j (by have := hk'.out; omega)
      have g := pw_range (j + 1) (by have := hk'.out; omega)
      have f0 : 0 ≤ Z * pw j % 18446744073709551616 := by omega
      have f1 : Z * pw j % 18446744073709551616 < 18446744073709551616 := by omega
      have E1 := Lib.hid e1
      have E2 := Lib.hid e2
      have hs' := Lib.hid hs
      clear e1 e2 hs
      generalize Z / (18446744073709551616 / pw j) = P at *
      generalize Z * pw j % 18446744073709551616 = zz at *
      generalize hq : pw j = q at *
      have hq' := Lib.hid hq
      generalize hQ : pw k = Q at *
      have hQ' := Lib.hid hQ
      clear hq hQ hzr
      have ew : IntKind.u64.wrap (zz * 2) = zz * 2 % 18446744073709551616 := IntKind.wrap_u64 _
      go_wp2_with fail
      refine ⟨⟨j + 1, by omega, by rw [E2.out], by rw [E1.out], by rw [hs'.out]⟩, ?_⟩
      simp only [intOf]
      omega
end Go.Proofs.YtgdjbfcdkibdbaaGreatDoor
