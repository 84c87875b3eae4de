/- errors.As with targets of further error types. Conditions: none. -/
import Derived.Test.YtgdjbfcdkibdbaaDoorAsD
namespace Go.Proofs.YtgdjbfcdkibdbaaDoor
open Go Go.RowKit
set_option maxRecDepth 100000
theorem kindP_At : ∀ w, (callFunc 165 #[hd 121]).run Tryd.prog w = .ok (.value (.int .u8 22)) w := fun _ => by kernel_rfl
theorem kind_At : ∀ w, (callFunc 165 #[hd 59]).run Tryd.prog w = .ok (.value (.int .u8 22)) w := fun _ => by kernel_rfl
theorem elemT_At : ∀ w, (callFunc 180 #[.agg #[hd 121]]).run Tryd.prog w = .ok (.value (rt 59)) w := fun _ => by kernel_rfl
theorem impl_At : ∀ w, (callFunc 181 #[.agg #[hd 59], rt 27]).run Tryd.prog w = .ok (.value (.bool true)) w := fun _ => by kernel_rfl
set_option maxHeartbeats 1000000 in
theorem As_hit_At (n : Nat) (E : TypeId) (v : Value) (w : World) (a : Nat) (x : Option Addr) (old : Value) (hg : ErrType w) (hgl : 1 < w.heap.size) (ha : Blk w a #[old] 59)
    (hc : ∀ w1, Same w w1 → Chain w1 59 n (.iface E v) (some (.pointer x))) :
    Calls Tryd.prog 47 #[.iface E v, .iface 121 (.pointer (some ⟨a, 0, none⟩))] w fun e w' => e = .returned (.bool true) ∧ Chg (· = a) w w' ∧ Blk w' a #[(.pointer x)] 59 := by
  have h1 := valueOf_pAt ⟨a, 0, none⟩
  have h2 := valType_pAt
  have h3 := kindP_At
  have h4 := kind_At
  have h5 := elemT_At
  have h6 := impl_At
  have h7 := isNil_At (a := ⟨a, 0, none⟩) (b := ⟨w.heap.size, 0, none⟩) (w := (w.alloc (.cells #[.pointer (some ⟨a, 0, none⟩)] 121)).alloc (.cells #[hd 121, .pointer (some ⟨w.heap.size, 0, none⟩), .int .u64 150] 134)) (((Blk.new _ _ _).alloc _).cellAt 0 rfl)
  unfold ErrType at hg
  have hg2 : ((w.alloc (.cells #[.pointer (some ⟨a, 0, none⟩)] 121)).alloc (.cells #[hd 121, .pointer (some ⟨w.heap.size, 0, none⟩), .int .u64 150] 134)).cell? ⟨1, 0, none⟩ = some (rt 27) := by
    rw [World.cell?_alloc_past _ _ _ (Nat.lt_of_lt_of_le hgl (by simp)), World.cell?_alloc_past _ _ _ hgl]; exact hg
  have hb : Blk ((w.alloc (.cells #[.pointer (some ⟨a, 0, none⟩)] 121)).alloc (.cells #[hd 121, .pointer (some ⟨w.heap.size, 0, none⟩), .int .u64 150] 134)) w.heap.size #[.pointer (some ⟨a, 0, none⟩)] 121 := (Blk.new _ _ _).alloc _
  have halt := ha.lt
  go_enter Tryd.func47, Tryd.ntmps47
  go_wp2_with fail
  refine (as_hit_At n _ _ _ a w.heap.size x old hb ((ha.alloc _).alloc _) (hc _ ?_)).mono ?_
  · exact (((Chg.refl _ _).alloc _).alloc _).alloc _
  rintro e w' ⟨rfl, rfl⟩
  go_wp2_with fail
  go_ret
  refine ⟨rfl, ?_, ?_⟩
  · refine Chg.setCell (((((Chg.refl _ _).alloc _).alloc _).alloc _).alloc _) (Or.inl ?_) _
    rfl
  · exact (((((ha.alloc _).alloc _).alloc _).alloc _).set 0 _)
set_option maxHeartbeats 1000000 in
theorem As_none_At (n : Nat) (E : TypeId) (v : Value) (w : World) (a : Nat) (hg : ErrType w) (hgl : 1 < w.heap.size)
    (hc : ∀ w1, Same w w1 → Chain w1 59 n (.iface E v) none) :
    Calls Tryd.prog 47 #[.iface E v, .iface 121 (.pointer (some ⟨a, 0, none⟩))] w fun e w' => e = .returned (.bool false) ∧ Same w w' := by
  have h1 := valueOf_pAt ⟨a, 0, none⟩
  have h2 := valType_pAt
  have h3 := kindP_At
  have h4 := kind_At
  have h5 := elemT_At
  have h6 := impl_At
  have h7 := isNil_At (a := ⟨a, 0, none⟩) (b := ⟨w.heap.size, 0, none⟩) (w := (w.alloc (.cells #[.pointer (some ⟨a, 0, none⟩)] 121)).alloc (.cells #[hd 121, .pointer (some ⟨w.heap.size, 0, none⟩), .int .u64 150] 134)) (((Blk.new _ _ _).alloc _).cellAt 0 rfl)
  unfold ErrType at hg
  have hg2 : ((w.alloc (.cells #[.pointer (some ⟨a, 0, none⟩)] 121)).alloc (.cells #[hd 121, .pointer (some ⟨w.heap.size, 0, none⟩), .int .u64 150] 134)).cell? ⟨1, 0, none⟩ = some (rt 27) := by
    rw [World.cell?_alloc_past _ _ _ (Nat.lt_of_lt_of_le hgl (by simp)), World.cell?_alloc_past _ _ _ hgl]; exact hg
  go_enter Tryd.func47, Tryd.ntmps47
  go_wp2_with fail
  refine (as_none n _ _ _ _ _ _ _ (hc _ ?_)).mono ?_
  · exact (((Chg.refl _ _).alloc _).alloc _).alloc _
  rintro e w' ⟨rfl, rfl⟩
  go_wp2_with fail
  go_ret
  exact ⟨rfl, (((Chg.refl _ _).alloc _).alloc _).alloc _⟩
theorem kindP_Panicked : ∀ w, (callFunc 165 #[hd 92]).run Tryd.prog w = .ok (.value (.int .u8 22)) w := fun _ => by kernel_rfl
theorem kind_Panicked : ∀ w, (callFunc 165 #[hd 58]).run Tryd.prog w = .ok (.value (.int .u8 22)) w := fun _ => by kernel_rfl
theorem elemT_Panicked : ∀ w, (callFunc 180 #[.agg #[hd 92]]).run Tryd.prog w = .ok (.value (rt 58)) w := fun _ => by kernel_rfl
theorem impl_Panicked : ∀ w, (callFunc 181 #[.agg #[hd 58], rt 27]).run Tryd.prog w = .ok (.value (.bool true)) w := fun _ => by kernel_rfl
set_option maxHeartbeats 1000000 in
theorem As_hit_Panicked (n : Nat) (E : TypeId) (v : Value) (w : World) (a : Nat) (x : Option Addr) (old : Value) (hg : ErrType w) (hgl : 1 < w.heap.size) (ha : Blk w a #[old] 58)
    (hc : ∀ w1, Same w w1 → Chain w1 58 n (.iface E v) (some (.pointer x))) :
    Calls Tryd.prog 47 #[.iface E v, .iface 92 (.pointer (some ⟨a, 0, none⟩))] w fun e w' => e = .returned (.bool true) ∧ Chg (· = a) w w' ∧ Blk w' a #[(.pointer x)] 58 := by
  have h1 := valueOf_pPanicked ⟨a, 0, none⟩
  have h2 := valType_pPanicked
  have h3 := kindP_Panicked
  have h4 := kind_Panicked
  have h5 := elemT_Panicked
  have h6 := impl_Panicked
  have h7 := isNil_Panicked (a := ⟨a, 0, none⟩) (b := ⟨w.heap.size, 0, none⟩) (w := (w.alloc (.cells #[.pointer (some ⟨a, 0, none⟩)] 92)).alloc (.cells #[hd 92, .pointer (some ⟨w.heap.size, 0, none⟩), .int .u64 150] 134)) (((Blk.new _ _ _).alloc _).cellAt 0 rfl)
  unfold ErrType at hg
  have hg2 : ((w.alloc (.cells #[.pointer (some ⟨a, 0, none⟩)] 92)).alloc (.cells #[hd 92, .pointer (some ⟨w.heap.size, 0, none⟩), .int .u64 150] 134)).cell? ⟨1, 0, none⟩ = some (rt 27) := by
    rw [World.cell?_alloc_past _ _ _ (Nat.lt_of_lt_of_le hgl (by simp)), World.cell?_alloc_past _ _ _ hgl]; exact hg
  have hb : Blk ((w.alloc (.cells #[.pointer (some ⟨a, 0, none⟩)] 92)).alloc (.cells #[hd 92, .pointer (some ⟨w.heap.size, 0, none⟩), .int .u64 150] 134)) w.heap.size #[.pointer (some ⟨a, 0, none⟩)] 92 := (Blk.new _ _ _).alloc _
  have halt := ha.lt
  go_enter Tryd.func47, Tryd.ntmps47
  go_wp2_with fail
  refine (as_hit_Panicked n _ _ _ a w.heap.size x old hb ((ha.alloc _).alloc _) (hc _ ?_)).mono ?_
  · exact (((Chg.refl _ _).alloc _).alloc _).alloc _
  rintro e w' ⟨rfl, rfl⟩
  go_wp2_with fail
  go_ret
  refine ⟨rfl, ?_, ?_⟩
  · refine Chg.setCell (((((Chg.refl _ _).alloc _).alloc _).alloc _).alloc _) (Or.inl ?_) _
    rfl
  · exact (((((ha.alloc _).alloc _).alloc _).alloc _).set 0 _)
set_option maxHeartbeats 1000000 in
theorem As_none_Panicked (n : Nat) (E : TypeId) (v : Value) (w : World) (a : Nat) (hg : ErrType w) (hgl : 1 < w.heap.size)
    (hc : ∀ w1, Same w w1 → Chain w1 58 n (.iface E v) none) :
    Calls Tryd.prog 47 #[.iface E v, .iface 92 (.pointer (some ⟨a, 0, none⟩))] w fun e w' => e = .returned (.bool false) ∧ Same w w' := by
  have h1 := valueOf_pPanicked ⟨a, 0, none⟩
  have h2 := valType_pPanicked
  have h3 := kindP_Panicked
  have h4 := kind_Panicked
  have h5 := elemT_Panicked
  have h6 := impl_Panicked
  have h7 := isNil_Panicked (a := ⟨a, 0, none⟩) (b := ⟨w.heap.size, 0, none⟩) (w := (w.alloc (.cells #[.pointer (some ⟨a, 0, none⟩)] 92)).alloc (.cells #[hd 92, .pointer (some ⟨w.heap.size, 0, none⟩), .int .u64 150] 134)) (((Blk.new _ _ _).alloc _).cellAt 0 rfl)
  unfold ErrType at hg
  have hg2 : ((w.alloc (.cells #[.pointer (some ⟨a, 0, none⟩)] 92)).alloc (.cells #[hd 92, .pointer (some ⟨w.heap.size, 0, none⟩), .int .u64 150] 134)).cell? ⟨1, 0, none⟩ = some (rt 27) := by
    rw [World.cell?_alloc_past _ _ _ (Nat.lt_of_lt_of_le hgl (by simp)), World.cell?_alloc_past _ _ _ hgl]; exact hg
  go_enter Tryd.func47, Tryd.ntmps47
  go_wp2_with fail
  refine (as_none n _ _ _ _ _ _ _ (hc _ ?_)).mono ?_
  · exact (((Chg.refl _ _).alloc _).alloc _).alloc _
  rintro e w' ⟨rfl, rfl⟩
  go_wp2_with fail
  go_ret
  exact ⟨rfl, (((Chg.refl _ _).alloc _).alloc _).alloc _⟩
end Go.Proofs.YtgdjbfcdkibdbaaDoor
