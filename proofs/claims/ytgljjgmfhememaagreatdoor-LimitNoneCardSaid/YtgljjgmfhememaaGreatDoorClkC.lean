/- (*clock.Clock).Stop with a nil thread. Conditions: none. -/
import Derived.Test.YtgljjgmfhememaaGreatDoorClkB
import Derived.Deep.RegionHeld3
namespace Go.Proofs.YtgljjgmfhememaaGreatDoor
open Go Go.RowKit
set_option maxRecDepth 100000
set_option maxHeartbeats 1000000
variable {w : World} {N : Nat} {now busy : Int} {st due : Nat → Int} {fs : Nat → Value}
theorem clk_stop_hit (h : Clk w N now busy st due fs) (j : Nat) (hj : j < 16) (x : Int) (h0 : 0 ≤ x ∧ x ≤ 2000000000) (h4 : x % 4 = 2) (hx : st j = x) :
    Calls Tryz.prog 74 #[.pointer (some ⟨N + 2, 0, none⟩), .pointer none, .agg #[.int .i64 j, .int .i64 x]] w fun e w' => e = .returned (.bool true) ∧ Clk w' N now busy (upd st j (x + 2)) due fs ∧ Chg (Turned N) w w' := by
  have hlt := h.lt
  have hA : Clk (w.alloc (.cells #[.int .i64 j, .int .i64 x] 151)) N now busy st due fs := h.chg (S := fun _ => False) ((Chg.refl _ _).alloc _) (fun _ _ _ x => x)
  have hT : Blk (w.alloc (.cells #[.int .i64 j, .int .i64 x] 151)) w.heap.size #[.int .i64 j, .int .i64 x] 151 := Blk.new _ _ _
  have sA : Same w (w.alloc (.cells #[.int .i64 j, .int .i64 x] 151)) := (Chg.refl _ _).alloc _
  have e0 : decide ((j : Int) < 0) = false := decide_eq_false (by omega)
  have e1 : decide (16 ≤ (j : Int)) = false := decide_eq_false (by omega)
  have e2 : decide (x < 0) = false := decide_eq_false (by omega)
  have e3 : ((x % 4 : Int) != 2) = false := by rw [bne_eq_false_iff_eq]; exact h4
  have b0 : (0 : Int) ≤ (j : Int) := by omega
  have b1 : (j : Int) < 16 := by omega
  have w1 : IntKind.i64.wrap (x + 4) = x + 4 := by rw [IntKind.wrap_i64]; omega
  have w2 : IntKind.i64.wrap (x + 4 - 2) = x + 2 := by rw [IntKind.wrap_i64]; omega
  have r0 := hT.cellAt 0 (v := .int .i64 j) rfl
  have r1 := hT.cellAt 1 (v := .int .i64 x) rfl
  obtain ⟨cs, hB, c0, _, _⟩ := hA.slot hj
  have d0 := hB.cellAt _ c0
  have HX := Lib.hid hx
  have HW := Lib.hid (And.intro w1 w2)
  have HB := Lib.hid (And.intro hB c0)
  clear h h4 hx w1 w2 hB c0
  go_enter Tryz.func74, Tryz.ntmps74
  go_wp2_with fail
  generalize w.alloc (.cells #[.int .i64 j, .int .i64 x] 151) = W at *
  generalize hr : w.heap.size = r at *
  have HR := Lib.hid hr
  have HA := Lib.hid (And.intro hA (And.intro hT sA))
  clear hr hA hT sA
  refine (clk_made HA.out.1).mono ?_
  rintro e _ ⟨rfl, rfl⟩
  go_wp2_with fail
  have hst := (HA.out.1.st j hj).drew
  have hc : Calls Tryz.prog 79 #[.pointer (some ⟨N + 3 + 2 * j, 0, none⟩), .pointer none, .int .i64 x, .int .i64 (x + 2)] W.drew fun e W1 => e = .returned (.bool true) ∧ CellAt W1 (N + 3 + 2 * j) (x + 2) ∧ Chg (· = N + 3 + 2 * j) W.drew W1 := by
    have := HX.out
    first | exact cell_cas_miss W.drew (N + 3 + 2 * j) (st j) x (x + 2) hst this | (rw [this] at hst; exact cas_ok W.drew (N + 3 + 2 * j) x (x + 2) hst)
  have HC := Lib.hid hc
  have w1 := HW.out.1
  have w2 := HW.out.2
  clear hst hc
  go_region_held3 (fun w' => w'.cell? ⟨N + 2, 2 + j * 3, none⟩ = some (.pointer (some ⟨N + 3 + 2 * j, 0, none⟩)) ∧ w'.cell? ⟨r, 0, none⟩ = some (.int .i64 j) ∧ w'.cell? ⟨r, 1, none⟩ = some (.int .i64 x)) (go_keep)
    (first | (go_at_call 79; refine HC.out.mono ?_; rintro e W1 ⟨rfl, q1, q2⟩; have t1 := (q2.blk HB.out.1.drew (by omega)).cellAt _ HB.out.2; have hr := HR.out; have t2 := (q2.blk HA.out.2.1.drew (by omega)).cellAt 0 (v := .int .i64 j) rfl; have t3 := (q2.blk HA.out.2.1.drew (by omega)).cellAt 1 (v := .int .i64 x) rfl))
  clear w1 w2
  have HE := Lib.hid (And.intro q1 q2)
  clear q1 q2 t1 t2 t3 hr
  go_wp2_with fail
  go_ret
  obtain ⟨q1, q2⟩ := HE.out
  have q3 : Chg (· = N + 3 + 2 * j) W W1 := (Chg.drew (Chg.refl _ W)).trans q2
  exact ⟨rfl, HA.out.1.setSt hj q3 q1, HA.out.2.2.mono (S' := Turned N) (fun _ _ x => x.elim) |>.trans (q3.mono (fun i _ e => by have e : i = _ := e; unfold Turned; omega))⟩
theorem clk_stop_miss (h : Clk w N now busy st due fs) (j : Nat) (hj : j < 16) (x : Int) (h0 : 0 ≤ x ∧ x ≤ 2000000000) (h4 : x % 4 = 2) (hx : ¬ st j = x) :
    Calls Tryz.prog 74 #[.pointer (some ⟨N + 2, 0, none⟩), .pointer none, .agg #[.int .i64 j, .int .i64 x]] w fun e w' => e = .returned (.bool false) ∧ Clk w' N now busy st due fs ∧ Chg (Turned N) w w' := by
  have hlt := h.lt
  have hA : Clk (w.alloc (.cells #[.int .i64 j, .int .i64 x] 151)) N now busy st due fs := h.chg (S := fun _ => False) ((Chg.refl _ _).alloc _) (fun _ _ _ x => x)
  have hT : Blk (w.alloc (.cells #[.int .i64 j, .int .i64 x] 151)) w.heap.size #[.int .i64 j, .int .i64 x] 151 := Blk.new _ _ _
  have sA : Same w (w.alloc (.cells #[.int .i64 j, .int .i64 x] 151)) := (Chg.refl _ _).alloc _
  have e0 : decide ((j : Int) < 0) = false := decide_eq_false (by omega)
  have e1 : decide (16 ≤ (j : Int)) = false := decide_eq_false (by omega)
  have e2 : decide (x < 0) = false := decide_eq_false (by omega)
  have e3 : ((x % 4 : Int) != 2) = false := by rw [bne_eq_false_iff_eq]; exact h4
  have b0 : (0 : Int) ≤ (j : Int) := by omega
  have b1 : (j : Int) < 16 := by omega
  have w1 : IntKind.i64.wrap (x + 4) = x + 4 := by rw [IntKind.wrap_i64]; omega
  have w2 : IntKind.i64.wrap (x + 4 - 2) = x + 2 := by rw [IntKind.wrap_i64]; omega
  have r0 := hT.cellAt 0 (v := .int .i64 j) rfl
  have r1 := hT.cellAt 1 (v := .int .i64 x) rfl
  obtain ⟨cs, hB, c0, _, _⟩ := hA.slot hj
  have d0 := hB.cellAt _ c0
  have HX := Lib.hid hx
  have HW := Lib.hid (And.intro w1 w2)
  have HB := Lib.hid (And.intro hB c0)
  clear h h4 hx w1 w2 hB c0
  go_enter Tryz.func74, Tryz.ntmps74
  go_wp2_with fail
  generalize w.alloc (.cells #[.int .i64 j, .int .i64 x] 151) = W at *
  generalize hr : w.heap.size = r at *
  have HR := Lib.hid hr
  have HA := Lib.hid (And.intro hA (And.intro hT sA))
  clear hr hA hT sA
  refine (clk_made HA.out.1).mono ?_
  rintro e _ ⟨rfl, rfl⟩
  go_wp2_with fail
  have hst := (HA.out.1.st j hj).drew
  have hc : Calls Tryz.prog 79 #[.pointer (some ⟨N + 3 + 2 * j, 0, none⟩), .pointer none, .int .i64 x, .int .i64 (x + 2)] W.drew fun e W1 => e = .returned (.bool false) ∧ W.drew = W1 := by
    have := HX.out
    first | exact cell_cas_miss W.drew (N + 3 + 2 * j) (st j) x (x + 2) hst this | (rw [this] at hst; exact cas_ok W.drew (N + 3 + 2 * j) x (x + 2) hst)
  have HC := Lib.hid hc
  have w1 := HW.out.1
  have w2 := HW.out.2
  clear hst hc
  go_region_held3 (fun w' => w'.cell? ⟨N + 2, 2 + j * 3, none⟩ = some (.pointer (some ⟨N + 3 + 2 * j, 0, none⟩)) ∧ w'.cell? ⟨r, 0, none⟩ = some (.int .i64 j) ∧ w'.cell? ⟨r, 1, none⟩ = some (.int .i64 x)) (go_keep)
    (first | (go_at_call 79; refine HC.out.mono ?_; rintro e W1 ⟨rfl, rfl⟩; skip))
  clear w1 w2
  go_wp2_with fail
  go_ret
  exact ⟨rfl, HA.out.1.chg (S := fun _ => False) (Chg.drew (Chg.refl _ W)) (fun _ _ _ x => x), (HA.out.2.2.drew).mono (fun _ _ x => x.elim)⟩
end Go.Proofs.YtgljjgmfhememaaGreatDoor
