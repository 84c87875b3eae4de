/- errors.As with a target of one of the errors' types, as its callers need it: what it answers, what it leaves of memory. Conditions: none. -/
import Derived.Test.YtgljjgmfhememaaGreatDoorAsC
namespace Go.Proofs.YtgljjgmfhememaaGreatDoor
open Go Go.RowKit
set_option maxRecDepth 100000
/-- The package variable errors.errorType as the program lays it. -/
def ErrType (w : World) : Prop := w.cell? ⟨0, 0, none⟩ = some (rt 29)
/-- Nothing that was there turns. -/
abbrev Same (w w' : World) : Prop := Chg (fun _ => False) w w'
theorem kindP_Errno : ∀ w, (callFunc 256 #[hd 142]).run Tryz.prog w = .ok (.value (.int .u8 22)) w := fun _ => by kernel_rfl
theorem kind_Errno : ∀ w, (callFunc 256 #[hd 33]).run Tryz.prog w = .ok (.value (.int .u8 2)) w := fun _ => by kernel_rfl
theorem elemT_Errno : ∀ w, (callFunc 270 #[.agg #[hd 142]]).run Tryz.prog w = .ok (.value (rt 33)) w := fun _ => by kernel_rfl
theorem impl_Errno : ∀ w, (callFunc 271 #[.agg #[hd 33], rt 29]).run Tryz.prog w = .ok (.value (.bool true)) w := fun _ => by kernel_rfl
set_option maxHeartbeats 1000000 in
theorem As_hit_Errno (n : Nat) (E : TypeId) (v : Value) (w : World) (a : Nat) (x : Int) (old : Value) (hg : ErrType w) (hgl : 0 < w.heap.size) (ha : Blk w a #[old] 33)
    (hc : ∀ w1, Same w w1 → Chain w1 33 n (.iface E v) (some (.int .i64 x))) :
    Calls Tryz.prog 64 #[.iface E v, .iface 142 (.pointer (some ⟨a, 0, none⟩))] w fun e w' => e = .returned (.bool true) ∧ Chg (· = a) w w' ∧ Blk w' a #[(.int .i64 x)] 33 := by
  have h1 := valueOf_pErrno ⟨a, 0, none⟩
  have h2 := valType_pErrno
  have h3 := kindP_Errno
  have h4 := kind_Errno
  have h5 := elemT_Errno
  have h6 := impl_Errno
  have h7 := isNil_Errno (a := ⟨a, 0, none⟩) (b := ⟨w.heap.size, 0, none⟩) (w := (w.alloc (.cells #[.pointer (some ⟨a, 0, none⟩)] 142)).alloc (.cells #[hd 142, .pointer (some ⟨w.heap.size, 0, none⟩), .int .u64 150] 233)) (((Blk.new _ _ _).alloc _).cellAt 0 rfl)
  unfold ErrType at hg
  have hg2 : ((w.alloc (.cells #[.pointer (some ⟨a, 0, none⟩)] 142)).alloc (.cells #[hd 142, .pointer (some ⟨w.heap.size, 0, none⟩), .int .u64 150] 233)).cell? ⟨0, 0, none⟩ = some (rt 29) := by
    rw [World.cell?_alloc_past _ _ _ (Nat.lt_of_lt_of_le hgl (by simp)), World.cell?_alloc_past _ _ _ hgl]; exact hg
  have hb : Blk ((w.alloc (.cells #[.pointer (some ⟨a, 0, none⟩)] 142)).alloc (.cells #[hd 142, .pointer (some ⟨w.heap.size, 0, none⟩), .int .u64 150] 233)) w.heap.size #[.pointer (some ⟨a, 0, none⟩)] 142 := (Blk.new _ _ _).alloc _
  have halt := ha.lt
  go_enter Tryz.func64, Tryz.ntmps64
  go_wp2_with fail
  refine (as_hit_Errno n _ _ _ a w.heap.size x old hb ((ha.alloc _).alloc _) (hc _ ?_)).mono ?_
  · exact (((Chg.refl _ _).alloc _).alloc _).alloc _
  rintro e w' ⟨rfl, rfl⟩
  go_wp2_with fail
  go_ret
  refine ⟨rfl, ?_, ?_⟩
  · refine Chg.setCell (((((Chg.refl _ _).alloc _).alloc _).alloc _).alloc _) (Or.inl ?_) _
    rfl
  · exact (((((ha.alloc _).alloc _).alloc _).alloc _).set 0 _)
set_option maxHeartbeats 1000000 in
theorem As_none_Errno (n : Nat) (E : TypeId) (v : Value) (w : World) (a : Nat) (hg : ErrType w) (hgl : 0 < w.heap.size)
    (hc : ∀ w1, Same w w1 → Chain w1 33 n (.iface E v) none) :
    Calls Tryz.prog 64 #[.iface E v, .iface 142 (.pointer (some ⟨a, 0, none⟩))] w fun e w' => e = .returned (.bool false) ∧ Same w w' := by
  have h1 := valueOf_pErrno ⟨a, 0, none⟩
  have h2 := valType_pErrno
  have h3 := kindP_Errno
  have h4 := kind_Errno
  have h5 := elemT_Errno
  have h6 := impl_Errno
  have h7 := isNil_Errno (a := ⟨a, 0, none⟩) (b := ⟨w.heap.size, 0, none⟩) (w := (w.alloc (.cells #[.pointer (some ⟨a, 0, none⟩)] 142)).alloc (.cells #[hd 142, .pointer (some ⟨w.heap.size, 0, none⟩), .int .u64 150] 233)) (((Blk.new _ _ _).alloc _).cellAt 0 rfl)
  unfold ErrType at hg
  have hg2 : ((w.alloc (.cells #[.pointer (some ⟨a, 0, none⟩)] 142)).alloc (.cells #[hd 142, .pointer (some ⟨w.heap.size, 0, none⟩), .int .u64 150] 233)).cell? ⟨0, 0, none⟩ = some (rt 29) := by
    rw [World.cell?_alloc_past _ _ _ (Nat.lt_of_lt_of_le hgl (by simp)), World.cell?_alloc_past _ _ _ hgl]; exact hg
  go_enter Tryz.func64, Tryz.ntmps64
  go_wp2_with fail
  refine (as_none n _ _ _ _ _ _ _ (hc _ ?_)).mono ?_
  · exact (((Chg.refl _ _).alloc _).alloc _).alloc _
  rintro e w' ⟨rfl, rfl⟩
  go_wp2_with fail
  go_ret
  exact ⟨rfl, (((Chg.refl _ _).alloc _).alloc _).alloc _⟩
end Go.Proofs.YtgljjgmfhememaaGreatDoor
