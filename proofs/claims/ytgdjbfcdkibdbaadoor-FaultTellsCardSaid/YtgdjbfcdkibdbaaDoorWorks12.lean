/- treadlelaw12.works answers true and leaves all memory as it was. Conditions: errors.errorType, internal/strconv.uint64pow10 hold what the program lays. -/
import Derived.Test.YtgdjbfcdkibdbaaDoorTextT
import Derived.Test.YtgdjbfcdkibdbaaDoorAsE
import Derived.Test.YtgdjbfcdkibdbaaDoorCatch
import Derived.Test.YtgdjbfcdkibdbaaDoorMore
import Derived.WalkLawsBesides
namespace Go.Proofs.YtgdjbfcdkibdbaaDoor
open Go Go.RowKit Go.Sort
set_option maxRecDepth 100000
set_option maxHeartbeats 1000000
theorem wrap_ok (w : World) (n : Int) (E : TypeId) (x : Value) : Calls Tryd.prog 25 #[.int .i64 n, .iface E x] w fun e w' => e = .returned (.iface 59 (.pointer (some ⟨w.heap.size, 0, none⟩))) ∧ w.alloc (.cells #[.int .i64 n, .iface E x] 120) = w' := by
  go_enter Tryd.func25, Tryd.ntmps25
  go_wp2_with fail
  go_ret
  exact ⟨rfl, rfl⟩
theorem wrap_nil (w : World) (n : Int) : Calls Tryd.prog 25 #[.int .i64 n, .nilIface] w fun e w' => e = .returned .nilIface ∧ w = w' := by
  go_enter Tryd.func25, Tryd.ntmps25
  go_wp2_with fail
  go_ret
  exact ⟨rfl, rfl⟩
theorem works12_f (w : World) : Calls Tryd.prog 76 #[] w fun e w' => e = .panicked [{ v := .iface 3 (.int .i64 7), recovered := false }] ∧ w = w' := by
  go_enter Tryd.func76, Tryd.ntmps76
  go_wp2_with fail
  exact ⟨rfl, rfl, rfl⟩
theorem seven : ∀ w, (binOp .eql 20 (.iface 3 (.int .i64 7)) (.iface 3 (.int .i64 7))).run Tryd.prog w = .ok (.bool true) w := fun _ => by kernel_rfl
theorem isT_Panicked : IsT 58 58 := fun _ => by kernel_rfl
theorem works12_text : eText [3] (some (.failed (-7))) = [51, 58, 32, 102, 97, 105, 108, 101, 100, 32, 45, 55] := by kernel_rfl
theorem w12eq : ∀ w, (binOp .eql 9 (tx [51, 58, 32, 102, 97, 105, 108, 101, 100, 32, 45, 55]) (.string ⟨#[51, 58, 32, 102, 97, 105, 108, 101, 100, 32, 45, 55]⟩)).run Tryd.prog w = .ok (.bool true) w := fun _ => by kernel_rfl
theorem works12 (w : World) (hg : ErrType w) (hl : 1 < w.heap.size) (hp : Pow w) : Calls Tryd.prog 38 #[] w fun e w' => e = .returned (.bool true) ∧ Same w w' := by
  have h7 := seven
  have h8 := w12eq
  go_enter Tryd.func38, Tryd.ntmps38
  go_wp2_with fail
  refine (wrap_ok _ _ _ _).mono ?_
  rintro e w' ⟨rfl, rfl⟩
  have k1 : Blk ((w.alloc (.cells #[.int .i64 (-7)] 85)).alloc (.cells #[.int .i64 3, .iface 55 (.pointer (some ⟨w.heap.size, 0, none⟩))] 120)) w.heap.size #[.int .i64 (-7)] 85 := (Blk.new _ _ _).alloc _
  have k2 : Blk ((w.alloc (.cells #[.int .i64 (-7)] 85)).alloc (.cells #[.int .i64 3, .iface 55 (.pointer (some ⟨w.heap.size, 0, none⟩))] 120)) (w.alloc (.cells #[.int .i64 (-7)] 85)).heap.size #[.int .i64 3, .iface 55 (.pointer (some ⟨w.heap.size, 0, none⟩))] 120 := Blk.new _ _ _
  have s2 : Same w ((w.alloc (.cells #[.int .i64 (-7)] 85)).alloc (.cells #[.int .i64 3, .iface 55 (.pointer (some ⟨w.heap.size, 0, none⟩))] 120)) := ((Chg.refl _ _).alloc _).alloc _
  generalize (w.alloc (.cells #[.int .i64 (-7)] 85)).alloc (.cells #[.int .i64 3, .iface 55 (.pointer (some ⟨w.heap.size, 0, none⟩))] 120) = w2 at *
  generalize (w.alloc (.cells #[.int .i64 (-7)] 85)).heap.size = b at *
  have hE2 : ErrAt w2 [3] (some (.failed (-7))) (.iface 59 (.pointer (some ⟨b, 0, none⟩))) := ⟨b, _, rfl, k2, ⟨w.heap.size, rfl, k1⟩⟩
  clear k1 k2
  go_wp2_with fail
  have sc : Same w2 (catchW w2) := ((Chg.refl _ _).alloc _).alloc _
  refine (catch_panic 76 #[] w2 3 (.int .i64 7) (by decide) (fun w3 => w3 = catchW w2) (fun _ => by kernel_rfl) ((works12_f _).mono fun e w3 ⟨he, hw⟩ => ⟨he, hw ▸ (Blk.new _ _ _).alloc _, hw ▸ Blk.neww (by simp) _ _, hw.symm⟩)).mono ?_
  rintro e w4 ⟨w3, hw3, rfl, hc4, hb4⟩
  have s4 : Same w2 w4 := by subst hw3; exact sc.trans' hc4 (fun i hi e => by omega)
  generalize w3.heap.size = pb at *
  clear hc4 hw3 sc
  have hE4 := hE2.same s4
  have m4 := s2.trans s4
  clear hE2 s2 s4
  go_wp2_with fail
  have t5 : Blk (w4.alloc (.cells #[.pointer none] 58)) w4.heap.size #[.pointer none] 58 := Blk.new _ _ _
  have s5 : Same w4 (w4.alloc (.cells #[.pointer none] 58)) := (Chg.refl _ _).alloc _
  have hb5 := s5.blk hb4 (fun x => x)
  have hE5 := hE4.same s5
  have m5 := m4.trans s5
  have hlt4 := hb4.lt
  have htb := m4.size
  generalize w4.alloc (.cells #[.pointer none] 58) = w5 at *
  generalize w4.heap.size = tb at *
  clear hb4 hE4 m4 s5
  refine (text_any [3] (some (.failed (-7))) w5 _ hE5 (.inl (by simp)) (by intro m hm; simp at hm; subst hm; exact ⟨by decide, by decide⟩) (show F64 (-7) from ⟨by decide, by decide⟩) (by simp) (hp.same m5) trivial trivial).mono ?_
  rw [works12_text]
  rintro e w6 ⟨rfl, s6⟩
  have hb6 := s6.blk hb5 (fun x => x)
  have t6 := s6.blk t5 (fun x => x)
  have hE6 := hE5.same s6
  have m6 := m5.trans s6
  clear hb5 t5 hE5 m5 s6
  go_wp2_with fail
  refine (class_any w6 hE6 (hg.same m6 hl) (Nat.lt_of_lt_of_le hl m6.size)).mono ?_
  rintro e w7 ⟨rfl, s7⟩
  simp only [clsOf, Base.cls]
  have hb7 := s7.blk hb6 (fun x => x)
  have t7 := s7.blk t6 (fun x => x)
  have m7 := m6.trans s7
  clear hb6 t6 hE6 m6 s7
  go_wp2_with fail
  refine (As_hit_Panicked 0 58 _ w7 tb (some ⟨pb, 0, none⟩) (.pointer none) (hg.same m7 hl) (Nat.lt_of_lt_of_le hl m7.size) t7 (fun w1 h1 => .hit (lk_Panicked _) isT_Panicked)).mono ?_
  rintro e w8 ⟨rfl, s8, t8⟩
  have hb8 := s8.blk hb7 (by omega)
  have c8 := t8.cellAt 0 (v := .pointer (some ⟨pb, 0, none⟩)) rfl
  have d8 := hb8.cellAt 0 (v := .iface 3 (.int .i64 7)) rfl
  have hz := hb7.lt
  clear hb7 t7 t8 hb8
  go_wp2_with fail
  go_ret
  exact ⟨rfl, m7.trans' s8 (fun i hi e => by omega)⟩
end Go.Proofs.YtgdjbfcdkibdbaaDoor
