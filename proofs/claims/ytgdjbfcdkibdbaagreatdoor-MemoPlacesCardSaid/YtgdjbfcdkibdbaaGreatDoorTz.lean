/- math/bits.TrailingZeros at powers of two; memo.Place and the reference's Place and Power. Conditions: math/bits.deBruijn64tab holds what the program lays. -/
import Derived.Test.YtgdjbfcdkibdbaaGreatDoorBits
import Derived.Lib.LaidTab
namespace Go.Proofs.YtgdjbfcdkibdbaaGreatDoor
open Go Go.RowKit
set_option maxRecDepth 100000
set_option maxHeartbeats 1000000
def tab64 : List Int := [0, 1, 56, 2, 57, 49, 28, 3, 61, 58, 42, 50, 38, 29, 17, 4, 62, 47, 59, 36, 45, 43, 51, 22, 53, 39, 33, 30, 24, 18, 12, 5, 63, 55, 48, 27, 60, 41, 37, 16, 46, 35, 44, 21, 52, 32, 23, 11, 54, 26, 40, 15, 34, 20, 31, 10, 25, 14, 19, 9, 13, 8, 7, 6]
def Tab (w : World) : Prop := Lib.TabIs Tryz.prog w "math/bits.deBruijn64tab" .u8 tab64
theorem tabg : Tryz.prog.globalNamed "math/bits.deBruijn64tab" = some 3 := by kernel_rfl
theorem tz64_0 (w : World) (h : Tab w) : Calls Tryz.prog 138 #[.int .u64 1] w fun e w' => e = .returned (.int .i64 0) ∧ w = w' := by
  have c : w.cell? ⟨3, 0, none⟩ = some (.int .u8 0) := Lib.TabIs.cell h tabg 0 (by decide)
  have hx : (IntKind.u64.wrap (bits BinOp.and IntKind.u64 1 (IntKind.u64.wrap (-1)) * 285870213051353865) / 288230376151711744).toNat = 0 := by kernel_rfl
  go_enter Tryz.func138, Tryz.ntmps138
  go_wp2
  go_ret
  exact ⟨rfl, rfl⟩
theorem tz_0 (w : World) (h : Tab w) : Calls Tryz.prog 64 #[.int .u64 1] w fun e w' => e = .returned (.int .i64 0) ∧ w = w' := by
  go_enter Tryz.func64, Tryz.ntmps64
  go_wp2_with fail
  refine (tz64_0 w h).mono ?_
  rintro e w' ⟨rfl, rfl⟩
  go_wp2_with fail
  go_ret
  exact ⟨rfl, rfl⟩
theorem tz64_1 (w : World) (h : Tab w) : Calls Tryz.prog 138 #[.int .u64 2] w fun e w' => e = .returned (.int .i64 1) ∧ w = w' := by
  have c : w.cell? ⟨3, 1, none⟩ = some (.int .u8 1) := Lib.TabIs.cell h tabg 1 (by decide)
  have hx : (IntKind.u64.wrap (bits BinOp.and IntKind.u64 2 (IntKind.u64.wrap (-2)) * 285870213051353865) / 288230376151711744).toNat = 1 := by kernel_rfl
  go_enter Tryz.func138, Tryz.ntmps138
  go_wp2
  go_ret
  exact ⟨rfl, rfl⟩
theorem tz_1 (w : World) (h : Tab w) : Calls Tryz.prog 64 #[.int .u64 2] w fun e w' => e = .returned (.int .i64 1) ∧ w = w' := by
  go_enter Tryz.func64, Tryz.ntmps64
  go_wp2_with fail
  refine (tz64_1 w h).mono ?_
  rintro e w' ⟨rfl, rfl⟩
  go_wp2_with fail
  go_ret
  exact ⟨rfl, rfl⟩
theorem tz64_2 (w : World) (h : Tab w) : Calls Tryz.prog 138 #[.int .u64 4] w fun e w' => e = .returned (.int .i64 2) ∧ w = w' := by
  have c : w.cell? ⟨3, 3, none⟩ = some (.int .u8 2) := Lib.TabIs.cell h tabg 3 (by decide)
  have hx : (IntKind.u64.wrap (bits BinOp.and IntKind.u64 4 (IntKind.u64.wrap (-4)) * 285870213051353865) / 288230376151711744).toNat = 3 := by kernel_rfl
  go_enter Tryz.func138, Tryz.ntmps138
  go_wp2
  go_ret
  exact ⟨rfl, rfl⟩
theorem tz_2 (w : World) (h : Tab w) : Calls Tryz.prog 64 #[.int .u64 4] w fun e w' => e = .returned (.int .i64 2) ∧ w = w' := by
  go_enter Tryz.func64, Tryz.ntmps64
  go_wp2_with fail
  refine (tz64_2 w h).mono ?_
  rintro e w' ⟨rfl, rfl⟩
  go_wp2_with fail
  go_ret
  exact ⟨rfl, rfl⟩
theorem tz64_3 (w : World) (h : Tab w) : Calls Tryz.prog 138 #[.int .u64 8] w fun e w' => e = .returned (.int .i64 3) ∧ w = w' := by
  have c : w.cell? ⟨3, 7, none⟩ = some (.int .u8 3) := Lib.TabIs.cell h tabg 7 (by decide)
  have hx : (IntKind.u64.wrap (bits BinOp.and IntKind.u64 8 (IntKind.u64.wrap (-8)) * 285870213051353865) / 288230376151711744).toNat = 7 := by kernel_rfl
  go_enter Tryz.func138, Tryz.ntmps138
  go_wp2
  go_ret
  exact ⟨rfl, rfl⟩
theorem tz_3 (w : World) (h : Tab w) : Calls Tryz.prog 64 #[.int .u64 8] w fun e w' => e = .returned (.int .i64 3) ∧ w = w' := by
  go_enter Tryz.func64, Tryz.ntmps64
  go_wp2_with fail
  refine (tz64_3 w h).mono ?_
  rintro e w' ⟨rfl, rfl⟩
  go_wp2_with fail
  go_ret
  exact ⟨rfl, rfl⟩
theorem tz64_4 (w : World) (h : Tab w) : Calls Tryz.prog 138 #[.int .u64 16] w fun e w' => e = .returned (.int .i64 4) ∧ w = w' := by
  have c : w.cell? ⟨3, 15, none⟩ = some (.int .u8 4) := Lib.TabIs.cell h tabg 15 (by decide)
  have hx : (IntKind.u64.wrap (bits BinOp.and IntKind.u64 16 (IntKind.u64.wrap (-16)) * 285870213051353865) / 288230376151711744).toNat = 15 := by kernel_rfl
  go_enter Tryz.func138, Tryz.ntmps138
  go_wp2
  go_ret
  exact ⟨rfl, rfl⟩
theorem tz_4 (w : World) (h : Tab w) : Calls Tryz.prog 64 #[.int .u64 16] w fun e w' => e = .returned (.int .i64 4) ∧ w = w' := by
  go_enter Tryz.func64, Tryz.ntmps64
  go_wp2_with fail
  refine (tz64_4 w h).mono ?_
  rintro e w' ⟨rfl, rfl⟩
  go_wp2_with fail
  go_ret
  exact ⟨rfl, rfl⟩
theorem tz64_5 (w : World) (h : Tab w) : Calls Tryz.prog 138 #[.int .u64 32] w fun e w' => e = .returned (.int .i64 5) ∧ w = w' := by
  have c : w.cell? ⟨3, 31, none⟩ = some (.int .u8 5) := Lib.TabIs.cell h tabg 31 (by decide)
  have hx : (IntKind.u64.wrap (bits BinOp.and IntKind.u64 32 (IntKind.u64.wrap (-32)) * 285870213051353865) / 288230376151711744).toNat = 31 := by kernel_rfl
  go_enter Tryz.func138, Tryz.ntmps138
  go_wp2
  go_ret
  exact ⟨rfl, rfl⟩
theorem tz_5 (w : World) (h : Tab w) : Calls Tryz.prog 64 #[.int .u64 32] w fun e w' => e = .returned (.int .i64 5) ∧ w = w' := by
  go_enter Tryz.func64, Tryz.ntmps64
  go_wp2_with fail
  refine (tz64_5 w h).mono ?_
  rintro e w' ⟨rfl, rfl⟩
  go_wp2_with fail
  go_ret
  exact ⟨rfl, rfl⟩
theorem tz64_6 (w : World) (h : Tab w) : Calls Tryz.prog 138 #[.int .u64 64] w fun e w' => e = .returned (.int .i64 6) ∧ w = w' := by
  have c : w.cell? ⟨3, 63, none⟩ = some (.int .u8 6) := Lib.TabIs.cell h tabg 63 (by decide)
  have hx : (IntKind.u64.wrap (bits BinOp.and IntKind.u64 64 (IntKind.u64.wrap (-64)) * 285870213051353865) / 288230376151711744).toNat = 63 := by kernel_rfl
  go_enter Tryz.func138, Tryz.ntmps138
  go_wp2
  go_ret
  exact ⟨rfl, rfl⟩
theorem tz_6 (w : World) (h : Tab w) : Calls Tryz.prog 64 #[.int .u64 64] w fun e w' => e = .returned (.int .i64 6) ∧ w = w' := by
  go_enter Tryz.func64, Tryz.ntmps64
  go_wp2_with fail
  refine (tz64_6 w h).mono ?_
  rintro e w' ⟨rfl, rfl⟩
  go_wp2_with fail
  go_ret
  exact ⟨rfl, rfl⟩
theorem tz64_7 (w : World) (h : Tab w) : Calls Tryz.prog 138 #[.int .u64 128] w fun e w' => e = .returned (.int .i64 7) ∧ w = w' := by
  have c : w.cell? ⟨3, 62, none⟩ = some (.int .u8 7) := Lib.TabIs.cell h tabg 62 (by decide)
  have hx : (IntKind.u64.wrap (bits BinOp.and IntKind.u64 128 (IntKind.u64.wrap (-128)) * 285870213051353865) / 288230376151711744).toNat = 62 := by kernel_rfl
  go_enter Tryz.func138, Tryz.ntmps138
  go_wp2
  go_ret
  exact ⟨rfl, rfl⟩
theorem tz_7 (w : World) (h : Tab w) : Calls Tryz.prog 64 #[.int .u64 128] w fun e w' => e = .returned (.int .i64 7) ∧ w = w' := by
  go_enter Tryz.func64, Tryz.ntmps64
  go_wp2_with fail
  refine (tz64_7 w h).mono ?_
  rintro e w' ⟨rfl, rfl⟩
  go_wp2_with fail
  go_ret
  exact ⟨rfl, rfl⟩
theorem tz64_8 (w : World) (h : Tab w) : Calls Tryz.prog 138 #[.int .u64 256] w fun e w' => e = .returned (.int .i64 8) ∧ w = w' := by
  have c : w.cell? ⟨3, 61, none⟩ = some (.int .u8 8) := Lib.TabIs.cell h tabg 61 (by decide)
  have hx : (IntKind.u64.wrap (bits BinOp.and IntKind.u64 256 (IntKind.u64.wrap (-256)) * 285870213051353865) / 288230376151711744).toNat = 61 := by kernel_rfl
  go_enter Tryz.func138, Tryz.ntmps138
  go_wp2
  go_ret
  exact ⟨rfl, rfl⟩
theorem tz_8 (w : World) (h : Tab w) : Calls Tryz.prog 64 #[.int .u64 256] w fun e w' => e = .returned (.int .i64 8) ∧ w = w' := by
  go_enter Tryz.func64, Tryz.ntmps64
  go_wp2_with fail
  refine (tz64_8 w h).mono ?_
  rintro e w' ⟨rfl, rfl⟩
  go_wp2_with fail
  go_ret
  exact ⟨rfl, rfl⟩
theorem tz64_9 (w : World) (h : Tab w) : Calls Tryz.prog 138 #[.int .u64 512] w fun e w' => e = .returned (.int .i64 9) ∧ w = w' := by
  have c : w.cell? ⟨3, 59, none⟩ = some (.int .u8 9) := Lib.TabIs.cell h tabg 59 (by decide)
  have hx : (IntKind.u64.wrap (bits BinOp.and IntKind.u64 512 (IntKind.u64.wrap (-512)) * 285870213051353865) / 288230376151711744).toNat = 59 := by kernel_rfl
  go_enter Tryz.func138, Tryz.ntmps138
  go_wp2
  go_ret
  exact ⟨rfl, rfl⟩
theorem tz_9 (w : World) (h : Tab w) : Calls Tryz.prog 64 #[.int .u64 512] w fun e w' => e = .returned (.int .i64 9) ∧ w = w' := by
  go_enter Tryz.func64, Tryz.ntmps64
  go_wp2_with fail
  refine (tz64_9 w h).mono ?_
  rintro e w' ⟨rfl, rfl⟩
  go_wp2_with fail
  go_ret
  exact ⟨rfl, rfl⟩
theorem tz64_10 (w : World) (h : Tab w) : Calls Tryz.prog 138 #[.int .u64 1024] w fun e w' => e = .returned (.int .i64 10) ∧ w = w' := by
  have c : w.cell? ⟨3, 55, none⟩ = some (.int .u8 10) := Lib.TabIs.cell h tabg 55 (by decide)
  have hx : (IntKind.u64.wrap (bits BinOp.and IntKind.u64 1024 (IntKind.u64.wrap (-1024)) * 285870213051353865) / 288230376151711744).toNat = 55 := by kernel_rfl
  go_enter Tryz.func138, Tryz.ntmps138
  go_wp2
  go_ret
  exact ⟨rfl, rfl⟩
theorem tz_10 (w : World) (h : Tab w) : Calls Tryz.prog 64 #[.int .u64 1024] w fun e w' => e = .returned (.int .i64 10) ∧ w = w' := by
  go_enter Tryz.func64, Tryz.ntmps64
  go_wp2_with fail
  refine (tz64_10 w h).mono ?_
  rintro e w' ⟨rfl, rfl⟩
  go_wp2_with fail
  go_ret
  exact ⟨rfl, rfl⟩
theorem tz64_11 (w : World) (h : Tab w) : Calls Tryz.prog 138 #[.int .u64 2048] w fun e w' => e = .returned (.int .i64 11) ∧ w = w' := by
  have c : w.cell? ⟨3, 47, none⟩ = some (.int .u8 11) := Lib.TabIs.cell h tabg 47 (by decide)
  have hx : (IntKind.u64.wrap (bits BinOp.and IntKind.u64 2048 (IntKind.u64.wrap (-2048)) * 285870213051353865) / 288230376151711744).toNat = 47 := by kernel_rfl
  go_enter Tryz.func138, Tryz.ntmps138
  go_wp2
  go_ret
  exact ⟨rfl, rfl⟩
theorem tz_11 (w : World) (h : Tab w) : Calls Tryz.prog 64 #[.int .u64 2048] w fun e w' => e = .returned (.int .i64 11) ∧ w = w' := by
  go_enter Tryz.func64, Tryz.ntmps64
  go_wp2_with fail
  refine (tz64_11 w h).mono ?_
  rintro e w' ⟨rfl, rfl⟩
  go_wp2_with fail
  go_ret
  exact ⟨rfl, rfl⟩
theorem tz64_12 (w : World) (h : Tab w) : Calls Tryz.prog 138 #[.int .u64 4096] w fun e w' => e = .returned (.int .i64 12) ∧ w = w' := by
  have c : w.cell? ⟨3, 30, none⟩ = some (.int .u8 12) := Lib.TabIs.cell h tabg 30 (by decide)
  have hx : (IntKind.u64.wrap (bits BinOp.and IntKind.u64 4096 (IntKind.u64.wrap (-4096)) * 285870213051353865) / 288230376151711744).toNat = 30 := by kernel_rfl
  go_enter Tryz.func138, Tryz.ntmps138
  go_wp2
  go_ret
  exact ⟨rfl, rfl⟩
theorem tz_12 (w : World) (h : Tab w) : Calls Tryz.prog 64 #[.int .u64 4096] w fun e w' => e = .returned (.int .i64 12) ∧ w = w' := by
  go_enter Tryz.func64, Tryz.ntmps64
  go_wp2_with fail
  refine (tz64_12 w h).mono ?_
  rintro e w' ⟨rfl, rfl⟩
  go_wp2_with fail
  go_ret
  exact ⟨rfl, rfl⟩
end Go.Proofs.YtgdjbfcdkibdbaaGreatDoor
