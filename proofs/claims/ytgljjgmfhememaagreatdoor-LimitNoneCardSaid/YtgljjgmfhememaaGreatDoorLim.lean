/- Package limit with a nil thread: none, due, and Set where it refuses. Conditions: none. -/
import Derived.Test.YtgljjgmfhememaaGreatDoorClkE
import Derived.Test.YtgljjgmfhememaaGreatDoorTokD
import Derived.Test.YtgljjgmfhememaaGreatDoorJoinM
import Derived.Test.YtgljjgmfhememaaGreatDoorInv
namespace Go.Proofs.YtgljjgmfhememaaGreatDoor
open Go Go.RowKit
set_option maxRecDepth 100000
set_option maxHeartbeats 2000000
variable {w : World} {N : Nat} {now busy : Int} {st due : Nat → Int} {fs : Nat → Value}
theorem clk_set_nil (h : Clk w N now busy st due fs) : Calls Tryz.prog 71 #[.pointer (some ⟨N + 2, 0, none⟩), .pointer none, .int .i64 0, .nilFunc] w fun e w' => e = .returned (.tuple #[.agg #[.int .i64 0, .int .i64 0], .int .i64 1]) ∧ Same w w' := by
  have hA : Clk (w.alloc (.cells #[.int .i64 0, .int .i64 0] 151)) N now busy st due fs := h.chg (S := fun _ => False) ((Chg.refl _ _).alloc _) (fun _ _ _ x => x)
  have hT : Blk (w.alloc (.cells #[.int .i64 0, .int .i64 0] 151)) w.heap.size #[.int .i64 0, .int .i64 0] 151 := Blk.new _ _ _
  have hnn : ∀ w, (binOp .eql 55 .nilFunc .nilFunc).run Tryz.prog w = .ok (.bool true) w := fun w => by kernel_rfl
  have HA := Lib.hid (And.intro hA hT)
  clear hA hT h
  go_enter Tryz.func71, Tryz.ntmps71
  go_wp2_with fail
  refine (clk_made HA.out.1).mono ?_
  rintro e _ ⟨rfl, rfl⟩
  go_wp2_with fail
  exact bodyPost_ret (results_row_tmp (p := 8) (u := 9) (ty := 151) rfl _ _ w.heap.size 151 #[.int .i64 0, .int .i64 0] (0, 0) _ rfl HA.out.2 Tryz.underlying151 rfl (by kernel_rfl)) rfl ⟨rfl, (Chg.refl _ _).alloc _⟩
theorem clk_set_none (p : Option Addr) (h : NoClk w p) : Calls Tryz.prog 71 #[.pointer p, .pointer none, .int .i64 0, .nilFunc] w fun e w' => e = .returned (.tuple #[.agg #[.int .i64 0, .int .i64 0], .int .i64 2]) ∧ Same w w' := by
  have hA : NoClk (w.alloc (.cells #[.int .i64 0, .int .i64 0] 151)) p := by
    rcases h with rfl | ⟨b, cs, rfl, hb, h0⟩
    · exact .inl rfl
    · exact .inr ⟨b, cs, rfl, hb.alloc _, h0⟩
  have hT : Blk (w.alloc (.cells #[.int .i64 0, .int .i64 0] 151)) w.heap.size #[.int .i64 0, .int .i64 0] 151 := Blk.new _ _ _
  have HA := Lib.hid (And.intro hA hT)
  clear hA hT h
  go_enter Tryz.func71, Tryz.ntmps71
  go_wp2_with fail
  refine (clk_made_none _ HA.out.1).mono ?_
  rintro e _ ⟨rfl, rfl⟩
  go_wp2_with fail
  exact bodyPost_ret (results_row_tmp (p := 8) (u := 9) (ty := 151) rfl _ _ w.heap.size 151 #[.int .i64 0, .int .i64 0] (0, 0) _ rfl HA.out.2 Tryz.underlying151 rfl (by kernel_rfl)) rfl ⟨rfl, (Chg.refl _ _).alloc _⟩
theorem limit_none_no (h : Clk w N now busy st due fs) : Calls Tryz.prog 68 #[.pointer (some ⟨N + 2, 0, none⟩)] w fun e w' => e = .returned (.bool false) ∧ Same w w' := by
  have H := Lib.hid h
  clear h
  go_enter Tryz.func68, Tryz.ntmps68
  go_wp2_with fail
  refine (clk_set_nil H.out).mono ?_
  rintro e w1 ⟨rfl, s1⟩
  go_wp2_with fail
  go_ret
  exact ⟨rfl, s1.alloc _⟩
theorem limit_none_yes (p : Option Addr) (h : NoClk w p) : Calls Tryz.prog 68 #[.pointer p] w fun e w' => e = .returned (.bool true) ∧ Same w w' := by
  have H := Lib.hid h
  clear h
  go_enter Tryz.func68, Tryz.ntmps68
  go_wp2_with fail
  refine (clk_set_none _ H.out).mono ?_
  rintro e w1 ⟨rfl, s1⟩
  go_wp2_with fail
  go_ret
  exact ⟨rfl, s1.alloc _⟩
theorem limit_due (h : Clk w N now busy st due fs) (n0 : 0 ≤ now ∧ now ≤ 4611686018427387904) (d : Int) (d0 : 0 ≤ d) (d1 : d ≤ 9223372036854775807) (T : Int) (hT : T = now + min d (4611686018427387904 - now)) :
    Calls Tryz.prog 70 #[.pointer none, .pointer (some ⟨N + 2, 0, none⟩), .int .i64 d] w fun e w' => e = .returned (.int .i64 T) ∧ w = w' := by
  have H := Lib.hid h
  have HT := Lib.hid hT
  have w1' : IntKind.i64.wrap (4611686018427387904 - now) = 4611686018427387904 - now := by rw [IntKind.wrap_i64]; omega
  clear h hT
  go_enter Tryz.func70, Tryz.ntmps70
  go_wp2_with fail
  refine (clk_now H.out).mono ?_
  rintro e _ ⟨rfl, rfl⟩
  go_wp2_with fail
  go_ret
  exact ⟨by rw [HT.out]; rfl, rfl⟩
end Go.Proofs.YtgljjgmfhememaaGreatDoor
