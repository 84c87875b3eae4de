/- errors.As with targets of further error types. Conditions: none. -/
import Derived.Test.YtgdjbfcdkibdbaaDoorAsD
namespace Go.Proofs.YtgdjbfcdkibdbaaDoor
open Go Go.RowKit
set_option maxRecDepth 100000
theorem kindP_Failed : ∀ w, (callFunc 165 #[hd 83]).run Tryd.prog w = .ok (.value (.int .u8 22)) w := fun _ => by kernel_rfl
theorem kind_Failed : ∀ w, (callFunc 165 #[hd 55]).run Tryd.prog w = .ok (.value (.int .u8 22)) w := fun _ => by kernel_rfl
theorem elemT_Failed : ∀ w, (callFunc 180 #[.agg #[hd 83]]).run Tryd.prog w = .ok (.value (rt 55)) w := fun _ => by kernel_rfl
theorem impl_Failed : ∀ w, (callFunc 181 #[.agg #[hd 55], rt 27]).run Tryd.prog w = .ok (.value (.bool true)) w := fun _ => by kernel_rfl
set_option maxHeartbeats 1000000 in
theorem As_hit_Failed (n : Nat) (E : TypeId) (v : Value) (w : World) (a : Nat) (x : Option Addr) (old : Value) (hg : ErrType w) (hgl : 1 < w.heap.size) (ha : Blk w a #[old] 55)
    (hc : ∀ w1, Same w w1 → Chain w1 55 n (.iface E v) (some (.pointer x))) :
    Calls Tryd.prog 47 #[.iface E v, .iface 83 (.pointer (some ⟨a, 0, none⟩))] w fun e w' => e = .returned (.bool true) ∧ Chg (· = a) w w' ∧ Blk w' a #[(.pointer x)] 55 := by
  have h1 := valueOf_pFailed ⟨a, 0, none⟩
  have h2 := valType_pFailed
  have h3 := kindP_Failed
  have h4 := kind_Failed
  have h5 := elemT_Failed
  have h6 := impl_Failed
  have h7 := isNil_Failed (a := ⟨a, 0, none⟩) (b := ⟨w.heap.size, 0, none⟩) (w := (w.alloc (.cells #[.pointer (some ⟨a, 0, none⟩)] 83)).alloc (.cells #[hd 83, .pointer (some ⟨w.heap.size, 0, none⟩), .int .u64 150] 134)) (((Blk.new _ _ _).alloc _).cellAt 0 rfl)
  unfold ErrType at hg
  have hg2 : ((w.alloc (.cells #[.pointer (some ⟨a, 0, none⟩)] 83)).alloc (.cells #[hd 83, .pointer (some ⟨w.heap.size, 0, none⟩), .int .u64 150] 134)).cell? ⟨1, 0, none⟩ = some (rt 27) := by
    rw [World.cell?_alloc_past _ _ _ (Nat.lt_of_lt_of_le hgl (by simp)), World.cell?_alloc_past _ _ _ hgl]; exact hg
  have hb : Blk ((w.alloc (.cells #[.pointer (some ⟨a, 0, none⟩)] 83)).alloc (.cells #[hd 83, .pointer (some ⟨w.heap.size, 0, none⟩), .int .u64 150] 134)) w.heap.size #[.pointer (some ⟨a, 0, none⟩)] 83 := (Blk.new _ _ _).alloc _
  have halt := ha.lt
  go_enter Tryd.func47, Tryd.ntmps47
  go_wp2_with fail
  refine (as_hit_Failed n _ _ _ a w.heap.size x old hb ((ha.alloc _).alloc _) (hc _ ?_)).mono ?_
  · exact (((Chg.refl _ _).alloc _).alloc _).alloc _
  rintro e w' ⟨rfl, rfl⟩
  go_wp2_with fail
  go_ret
  refine ⟨rfl, ?_, ?_⟩
  · refine Chg.setCell (((((Chg.refl _ _).alloc _).alloc _).alloc _).alloc _) (Or.inl ?_) _
    rfl
  · exact (((((ha.alloc _).alloc _).alloc _).alloc _).set 0 _)
set_option maxHeartbeats 1000000 in
theorem As_none_Failed (n : Nat) (E : TypeId) (v : Value) (w : World) (a : Nat) (hg : ErrType w) (hgl : 1 < w.heap.size)
    (hc : ∀ w1, Same w w1 → Chain w1 55 n (.iface E v) none) :
    Calls Tryd.prog 47 #[.iface E v, .iface 83 (.pointer (some ⟨a, 0, none⟩))] w fun e w' => e = .returned (.bool false) ∧ Same w w' := by
  have h1 := valueOf_pFailed ⟨a, 0, none⟩
  have h2 := valType_pFailed
  have h3 := kindP_Failed
  have h4 := kind_Failed
  have h5 := elemT_Failed
  have h6 := impl_Failed
  have h7 := isNil_Failed (a := ⟨a, 0, none⟩) (b := ⟨w.heap.size, 0, none⟩) (w := (w.alloc (.cells #[.pointer (some ⟨a, 0, none⟩)] 83)).alloc (.cells #[hd 83, .pointer (some ⟨w.heap.size, 0, none⟩), .int .u64 150] 134)) (((Blk.new _ _ _).alloc _).cellAt 0 rfl)
  unfold ErrType at hg
  have hg2 : ((w.alloc (.cells #[.pointer (some ⟨a, 0, none⟩)] 83)).alloc (.cells #[hd 83, .pointer (some ⟨w.heap.size, 0, none⟩), .int .u64 150] 134)).cell? ⟨1, 0, none⟩ = some (rt 27) := by
    rw [World.cell?_alloc_past _ _ _ (Nat.lt_of_lt_of_le hgl (by simp)), World.cell?_alloc_past _ _ _ hgl]; exact hg
  go_enter Tryd.func47, Tryd.ntmps47
  go_wp2_with fail
  refine (as_none n _ _ _ _ _ _ _ (hc _ ?_)).mono ?_
  · exact (((Chg.refl _ _).alloc _).alloc _).alloc _
  rintro e w' ⟨rfl, rfl⟩
  go_wp2_with fail
  go_ret
  exact ⟨rfl, (((Chg.refl _ _).alloc _).alloc _).alloc _⟩
theorem kindP_Cancelled : ∀ w, (callFunc 165 #[hd 86]).run Tryd.prog w = .ok (.value (.int .u8 22)) w := fun _ => by kernel_rfl
theorem kind_Cancelled : ∀ w, (callFunc 165 #[hd 56]).run Tryd.prog w = .ok (.value (.int .u8 22)) w := fun _ => by kernel_rfl
theorem elemT_Cancelled : ∀ w, (callFunc 180 #[.agg #[hd 86]]).run Tryd.prog w = .ok (.value (rt 56)) w := fun _ => by kernel_rfl
theorem impl_Cancelled : ∀ w, (callFunc 181 #[.agg #[hd 56], rt 27]).run Tryd.prog w = .ok (.value (.bool true)) w := fun _ => by kernel_rfl
set_option maxHeartbeats 1000000 in
theorem As_hit_Cancelled (n : Nat) (E : TypeId) (v : Value) (w : World) (a : Nat) (x : Option Addr) (old : Value) (hg : ErrType w) (hgl : 1 < w.heap.size) (ha : Blk w a #[old] 56)
    (hc : ∀ w1, Same w w1 → Chain w1 56 n (.iface E v) (some (.pointer x))) :
    Calls Tryd.prog 47 #[.iface E v, .iface 86 (.pointer (some ⟨a, 0, none⟩))] w fun e w' => e = .returned (.bool true) ∧ Chg (· = a) w w' ∧ Blk w' a #[(.pointer x)] 56 := by
  have h1 := valueOf_pCancelled ⟨a, 0, none⟩
  have h2 := valType_pCancelled
  have h3 := kindP_Cancelled
  have h4 := kind_Cancelled
  have h5 := elemT_Cancelled
  have h6 := impl_Cancelled
  have h7 := isNil_Cancelled (a := ⟨a, 0, none⟩) (b := ⟨w.heap.size, 0, none⟩) (w := (w.alloc (.cells #[.pointer (some ⟨a, 0, none⟩)] 86)).alloc (.cells #[hd 86, .pointer (some ⟨w.heap.size, 0, none⟩), .int .u64 150] 134)) (((Blk.new _ _ _).alloc _).cellAt 0 rfl)
  unfold ErrType at hg
  have hg2 : ((w.alloc (.cells #[.pointer (some ⟨a, 0, none⟩)] 86)).alloc (.cells #[hd 86, .pointer (some ⟨w.heap.size, 0, none⟩), .int .u64 150] 134)).cell? ⟨1, 0, none⟩ = some (rt 27) := by
    rw [World.cell?_alloc_past _ _ _ (Nat.lt_of_lt_of_le hgl (by simp)), World.cell?_alloc_past _ _ _ hgl]; exact hg
  have hb : Blk ((w.alloc (.cells #[.pointer (some ⟨a, 0, none⟩)] 86)).alloc (.cells #[hd 86, .pointer (some ⟨w.heap.size, 0, none⟩), .int .u64 150] 134)) w.heap.size #[.pointer (some ⟨a, 0, none⟩)] 86 := (Blk.new _ _ _).alloc _
  have halt := ha.lt
  go_enter Tryd.func47, Tryd.ntmps47
  go_wp2_with fail
  refine (as_hit_Cancelled n _ _ _ a w.heap.size x old hb ((ha.alloc _).alloc _) (hc _ ?_)).mono ?_
  · exact (((Chg.refl _ _).alloc _).alloc _).alloc _
  rintro e w' ⟨rfl, rfl⟩
  go_wp2_with fail
  go_ret
  refine ⟨rfl, ?_, ?_⟩
  · refine Chg.setCell (((((Chg.refl _ _).alloc _).alloc _).alloc _).alloc _) (Or.inl ?_) _
    rfl
  · exact (((((ha.alloc _).alloc _).alloc _).alloc _).set 0 _)
set_option maxHeartbeats 1000000 in
theorem As_none_Cancelled (n : Nat) (E : TypeId) (v : Value) (w : World) (a : Nat) (hg : ErrType w) (hgl : 1 < w.heap.size)
    (hc : ∀ w1, Same w w1 → Chain w1 56 n (.iface E v) none) :
    Calls Tryd.prog 47 #[.iface E v, .iface 86 (.pointer (some ⟨a, 0, none⟩))] w fun e w' => e = .returned (.bool false) ∧ Same w w' := by
  have h1 := valueOf_pCancelled ⟨a, 0, none⟩
  have h2 := valType_pCancelled
  have h3 := kindP_Cancelled
  have h4 := kind_Cancelled
  have h5 := elemT_Cancelled
  have h6 := impl_Cancelled
  have h7 := isNil_Cancelled (a := ⟨a, 0, none⟩) (b := ⟨w.heap.size, 0, none⟩) (w := (w.alloc (.cells #[.pointer (some ⟨a, 0, none⟩)] 86)).alloc (.cells #[hd 86, .pointer (some ⟨w.heap.size, 0, none⟩), .int .u64 150] 134)) (((Blk.new _ _ _).alloc _).cellAt 0 rfl)
  unfold ErrType at hg
  have hg2 : ((w.alloc (.cells #[.pointer (some ⟨a, 0, none⟩)] 86)).alloc (.cells #[hd 86, .pointer (some ⟨w.heap.size, 0, none⟩), .int .u64 150] 134)).cell? ⟨1, 0, none⟩ = some (rt 27) := by
    rw [World.cell?_alloc_past _ _ _ (Nat.lt_of_lt_of_le hgl (by simp)), World.cell?_alloc_past _ _ _ hgl]; exact hg
  go_enter Tryd.func47, Tryd.ntmps47
  go_wp2_with fail
  refine (as_none n _ _ _ _ _ _ _ (hc _ ?_)).mono ?_
  · exact (((Chg.refl _ _).alloc _).alloc _).alloc _
  rintro e w' ⟨rfl, rfl⟩
  go_wp2_with fail
  go_ret
  exact ⟨rfl, (((Chg.refl _ _).alloc _).alloc _).alloc _⟩
theorem kindP_Late : ∀ w, (callFunc 165 #[hd 89]).run Tryd.prog w = .ok (.value (.int .u8 22)) w := fun _ => by kernel_rfl
theorem kind_Late : ∀ w, (callFunc 165 #[hd 57]).run Tryd.prog w = .ok (.value (.int .u8 22)) w := fun _ => by kernel_rfl
theorem elemT_Late : ∀ w, (callFunc 180 #[.agg #[hd 89]]).run Tryd.prog w = .ok (.value (rt 57)) w := fun _ => by kernel_rfl
theorem impl_Late : ∀ w, (callFunc 181 #[.agg #[hd 57], rt 27]).run Tryd.prog w = .ok (.value (.bool true)) w := fun _ => by kernel_rfl
set_option maxHeartbeats 1000000 in
theorem As_hit_Late (n : Nat) (E : TypeId) (v : Value) (w : World) (a : Nat) (x : Option Addr) (old : Value) (hg : ErrType w) (hgl : 1 < w.heap.size) (ha : Blk w a #[old] 57)
    (hc : ∀ w1, Same w w1 → Chain w1 57 n (.iface E v) (some (.pointer x))) :
    Calls Tryd.prog 47 #[.iface E v, .iface 89 (.pointer (some ⟨a, 0, none⟩))] w fun e w' => e = .returned (.bool true) ∧ Chg (· = a) w w' ∧ Blk w' a #[(.pointer x)] 57 := by
  have h1 := valueOf_pLate ⟨a, 0, none⟩
  have h2 := valType_pLate
  have h3 := kindP_Late
  have h4 := kind_Late
  have h5 := elemT_Late
  have h6 := impl_Late
  have h7 := isNil_Late (a := ⟨a, 0, none⟩) (b := ⟨w.heap.size, 0, none⟩) (w := (w.alloc (.cells #[.pointer (some ⟨a, 0, none⟩)] 89)).alloc (.cells #[hd 89, .pointer (some ⟨w.heap.size, 0, none⟩), .int .u64 150] 134)) (((Blk.new _ _ _).alloc _).cellAt 0 rfl)
  unfold ErrType at hg
  have hg2 : ((w.alloc (.cells #[.pointer (some ⟨a, 0, none⟩)] 89)).alloc (.cells #[hd 89, .pointer (some ⟨w.heap.size, 0, none⟩), .int .u64 150] 134)).cell? ⟨1, 0, none⟩ = some (rt 27) := by
    rw [World.cell?_alloc_past _ _ _ (Nat.lt_of_lt_of_le hgl (by simp)), World.cell?_alloc_past _ _ _ hgl]; exact hg
  have hb : Blk ((w.alloc (.cells #[.pointer (some ⟨a, 0, none⟩)] 89)).alloc (.cells #[hd 89, .pointer (some ⟨w.heap.size, 0, none⟩), .int .u64 150] 134)) w.heap.size #[.pointer (some ⟨a, 0, none⟩)] 89 := (Blk.new _ _ _).alloc _
  have halt := ha.lt
  go_enter Tryd.func47, Tryd.ntmps47
  go_wp2_with fail
  refine (as_hit_Late n _ _ _ a w.heap.size x old hb ((ha.alloc _).alloc _) (hc _ ?_)).mono ?_
  · exact (((Chg.refl _ _).alloc _).alloc _).alloc _
  rintro e w' ⟨rfl, rfl⟩
  go_wp2_with fail
  go_ret
  refine ⟨rfl, ?_, ?_⟩
  · refine Chg.setCell (((((Chg.refl _ _).alloc _).alloc _).alloc _).alloc _) (Or.inl ?_) _
    rfl
  · exact (((((ha.alloc _).alloc _).alloc _).alloc _).set 0 _)
set_option maxHeartbeats 1000000 in
theorem As_none_Late (n : Nat) (E : TypeId) (v : Value) (w : World) (a : Nat) (hg : ErrType w) (hgl : 1 < w.heap.size)
    (hc : ∀ w1, Same w w1 → Chain w1 57 n (.iface E v) none) :
    Calls Tryd.prog 47 #[.iface E v, .iface 89 (.pointer (some ⟨a, 0, none⟩))] w fun e w' => e = .returned (.bool false) ∧ Same w w' := by
  have h1 := valueOf_pLate ⟨a, 0, none⟩
  have h2 := valType_pLate
  have h3 := kindP_Late
  have h4 := kind_Late
  have h5 := elemT_Late
  have h6 := impl_Late
  have h7 := isNil_Late (a := ⟨a, 0, none⟩) (b := ⟨w.heap.size, 0, none⟩) (w := (w.alloc (.cells #[.pointer (some ⟨a, 0, none⟩)] 89)).alloc (.cells #[hd 89, .pointer (some ⟨w.heap.size, 0, none⟩), .int .u64 150] 134)) (((Blk.new _ _ _).alloc _).cellAt 0 rfl)
  unfold ErrType at hg
  have hg2 : ((w.alloc (.cells #[.pointer (some ⟨a, 0, none⟩)] 89)).alloc (.cells #[hd 89, .pointer (some ⟨w.heap.size, 0, none⟩), .int .u64 150] 134)).cell? ⟨1, 0, none⟩ = some (rt 27) := by
    rw [World.cell?_alloc_past _ _ _ (Nat.lt_of_lt_of_le hgl (by simp)), World.cell?_alloc_past _ _ _ hgl]; exact hg
  go_enter Tryd.func47, Tryd.ntmps47
  go_wp2_with fail
  refine (as_none n _ _ _ _ _ _ _ (hc _ ?_)).mono ?_
  · exact (((Chg.refl _ _).alloc _).alloc _).alloc _
  rintro e w' ⟨rfl, rfl⟩
  go_wp2_with fail
  go_ret
  exact ⟨rfl, (((Chg.refl _ _).alloc _).alloc _).alloc _⟩
end Go.Proofs.YtgdjbfcdkibdbaaDoor
