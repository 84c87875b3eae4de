/- The entries of reflectlite at pointers to errors' types. Conditions: none. -/
import Derived.Test.YtgdjbfcdkibdbaaGreatDoorAs
namespace Go.Proofs.YtgdjbfcdkibdbaaGreatDoor
open Go Go.RowKit
set_option maxRecDepth 100000
open Go.Extern in
theorem isNil_Errno {a b : Addr} {w : World} (h : w.cell? b = some (.pointer (some a))) : (callFunc 142 #[.agg #[hd 139, .pointer (some b), .int .u64 150]]).run Tryz.prog w = .ok (.value (.bool false)) w := by
  rw [run_callFunc_extern Tryz.func142 (by kernel_rfl) (by kernel_rfl) (by kernel_rfl) (e := ReflectliteValue.method (ReflectliteValue.valueError "reflectlite.Value.IsNil" 0) ReflectliteValue.isNil) (by kernel_rfl)]
  have e : (Sem.run Tryz.prog (ReflectliteValue.method (ReflectliteValue.valueError "reflectlite.Value.IsNil" 0) ReflectliteValue.isNil #[.agg #[hd 139, .pointer (some b), .int .u64 150]]) w) = Sem.run Tryz.prog (ReflectliteValue.isNil 139 b 150 22) w := by kernel_rfl
  rw [e]
  have ha := Tryz.isAgg139
  simp [ReflectliteValue.isNil, loadVar, ha, h, Result.andThen]
/-- Value.Elem of a pointer. -/
theorem elem_Errno {a b : Addr} {w : World} (h : w.cell? b = some (.pointer (some a))) : (callFunc 189 #[.agg #[hd 139, .pointer (some b), .int .u64 150]]).run Tryz.prog w = .ok (.value (.agg #[hd 35, .pointer (some a), .int .u64 386])) w := by
  rw [run_callFunc_extern Tryz.func189 (by kernel_rfl) (by kernel_rfl) (by kernel_rfl) (e := Extern.ReflectliteValue.method (Extern.ReflectliteValue.valueError "reflectlite.Value.Elem" 0) Extern.ReflectliteValue.elem) (by kernel_rfl)]
  have e : (Sem.run Tryz.prog (Extern.ReflectliteValue.method (Extern.ReflectliteValue.valueError "reflectlite.Value.Elem" 0) Extern.ReflectliteValue.elem #[.agg #[hd 139, .pointer (some b), .int .u64 150]]) w) = Sem.run Tryz.prog (Extern.ReflectliteValue.elem 139 b 150 22) w := by kernel_rfl
  rw [e]
  have ha := Tryz.isAgg139
  have hm : ∀ w, Sem.run Tryz.prog (Extern.Rtype.elem? 139) w = .ok (some 35) w := fun _ => by kernel_rfl
  have hk : ∀ w, Sem.run Tryz.prog (Extern.ReflectliteValue.mk 35 a Extern.ReflectliteValue.flagAddr) w = .ok (.agg #[hd 35, .pointer (some a), .int .u64 386]) w := fun _ => by kernel_rfl
  simp [Extern.ReflectliteValue.elem, loadVar, ha, h, hm, hk, Result.andThen]
theorem valueOf_pErrno (a : Addr) (w : World) : (callFunc 140 #[.iface 139 (.pointer (some a))]).run Tryz.prog w = .ok (.value (.agg #[hd 139, .pointer (some ⟨w.heap.size, 0, none⟩), .int .u64 150])) (w.alloc (.cells #[.pointer (some a)] 139)) := by kernel_rfl
theorem valType_pErrno (a : Addr) (w : World) : (callFunc 141 #[.agg #[hd 139, .pointer (some a), .int .u64 150]]).run Tryz.prog w = .ok (.value (rt 139)) w := by kernel_rfl
open Go.Extern in
theorem isNil_Panicked {a b : Addr} {w : World} (h : w.cell? b = some (.pointer (some a))) : (callFunc 142 #[.agg #[hd 202, .pointer (some b), .int .u64 150]]).run Tryz.prog w = .ok (.value (.bool false)) w := by
  rw [run_callFunc_extern Tryz.func142 (by kernel_rfl) (by kernel_rfl) (by kernel_rfl) (e := ReflectliteValue.method (ReflectliteValue.valueError "reflectlite.Value.IsNil" 0) ReflectliteValue.isNil) (by kernel_rfl)]
  have e : (Sem.run Tryz.prog (ReflectliteValue.method (ReflectliteValue.valueError "reflectlite.Value.IsNil" 0) ReflectliteValue.isNil #[.agg #[hd 202, .pointer (some b), .int .u64 150]]) w) = Sem.run Tryz.prog (ReflectliteValue.isNil 202 b 150 22) w := by kernel_rfl
  rw [e]
  have ha := Tryz.isAgg202
  simp [ReflectliteValue.isNil, loadVar, ha, h, Result.andThen]
/-- Value.Elem of a pointer. -/
theorem elem_Panicked {a b : Addr} {w : World} (h : w.cell? b = some (.pointer (some a))) : (callFunc 189 #[.agg #[hd 202, .pointer (some b), .int .u64 150]]).run Tryz.prog w = .ok (.value (.agg #[hd 200, .pointer (some a), .int .u64 406])) w := by
  rw [run_callFunc_extern Tryz.func189 (by kernel_rfl) (by kernel_rfl) (by kernel_rfl) (e := Extern.ReflectliteValue.method (Extern.ReflectliteValue.valueError "reflectlite.Value.Elem" 0) Extern.ReflectliteValue.elem) (by kernel_rfl)]
  have e : (Sem.run Tryz.prog (Extern.ReflectliteValue.method (Extern.ReflectliteValue.valueError "reflectlite.Value.Elem" 0) Extern.ReflectliteValue.elem #[.agg #[hd 202, .pointer (some b), .int .u64 150]]) w) = Sem.run Tryz.prog (Extern.ReflectliteValue.elem 202 b 150 22) w := by kernel_rfl
  rw [e]
  have ha := Tryz.isAgg202
  have hm : ∀ w, Sem.run Tryz.prog (Extern.Rtype.elem? 202) w = .ok (some 200) w := fun _ => by kernel_rfl
  have hk : ∀ w, Sem.run Tryz.prog (Extern.ReflectliteValue.mk 200 a Extern.ReflectliteValue.flagAddr) w = .ok (.agg #[hd 200, .pointer (some a), .int .u64 406]) w := fun _ => by kernel_rfl
  simp [Extern.ReflectliteValue.elem, loadVar, ha, h, hm, hk, Result.andThen]
theorem valueOf_pPanicked (a : Addr) (w : World) : (callFunc 140 #[.iface 202 (.pointer (some a))]).run Tryz.prog w = .ok (.value (.agg #[hd 202, .pointer (some ⟨w.heap.size, 0, none⟩), .int .u64 150])) (w.alloc (.cells #[.pointer (some a)] 202)) := by kernel_rfl
theorem valType_pPanicked (a : Addr) (w : World) : (callFunc 141 #[.agg #[hd 202, .pointer (some a), .int .u64 150]]).run Tryz.prog w = .ok (.value (rt 202)) w := by kernel_rfl
theorem valueOf_Errno (n : Int) (w : World) : (callFunc 140 #[.iface 35 (.int .i64 n)]).run Tryz.prog w = .ok (.value (.agg #[hd 35, .pointer (some ⟨w.heap.size, 0, none⟩), .int .u64 130])) (w.alloc (.cells #[.int .i64 n] 35)) := by kernel_rfl
theorem valueOf_At (a : Option Addr) (w : World) : (callFunc 140 #[.iface 237 (.pointer a)]).run Tryz.prog w = .ok (.value (.agg #[hd 237, .pointer (some ⟨w.heap.size, 0, none⟩), .int .u64 150])) (w.alloc (.cells #[.pointer a] 237)) := by kernel_rfl
theorem valueOf_Panicked (a : Option Addr) (w : World) : (callFunc 140 #[.iface 200 (.pointer a)]).run Tryz.prog w = .ok (.value (.agg #[hd 200, .pointer (some ⟨w.heap.size, 0, none⟩), .int .u64 150])) (w.alloc (.cells #[.pointer a] 200)) := by kernel_rfl
theorem valueOf_Failed (a : Option Addr) (w : World) : (callFunc 140 #[.iface 141 (.pointer a)]).run Tryz.prog w = .ok (.value (.agg #[hd 141, .pointer (some ⟨w.heap.size, 0, none⟩), .int .u64 150])) (w.alloc (.cells #[.pointer a] 141)) := by kernel_rfl
theorem valueOf_Cancelled (a : Option Addr) (w : World) : (callFunc 140 #[.iface 256 (.pointer a)]).run Tryz.prog w = .ok (.value (.agg #[hd 256, .pointer (some ⟨w.heap.size, 0, none⟩), .int .u64 150])) (w.alloc (.cells #[.pointer a] 256)) := by kernel_rfl
theorem valueOf_Late (a : Option Addr) (w : World) : (callFunc 140 #[.iface 164 (.pointer a)]).run Tryz.prog w = .ok (.value (.agg #[hd 164, .pointer (some ⟨w.heap.size, 0, none⟩), .int .u64 150])) (w.alloc (.cells #[.pointer a] 164)) := by kernel_rfl
end Go.Proofs.YtgdjbfcdkibdbaaGreatDoor
