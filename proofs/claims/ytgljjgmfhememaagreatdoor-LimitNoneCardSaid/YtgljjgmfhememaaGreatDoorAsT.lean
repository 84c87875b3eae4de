/- The entries of reflectlite at pointers to errors' types. Conditions: none. -/
import Derived.Test.YtgljjgmfhememaaGreatDoorAs
namespace Go.Proofs.YtgljjgmfhememaaGreatDoor
open Go Go.RowKit
set_option maxRecDepth 100000
open Go.Extern in
theorem isNil_Errno {a b : Addr} {w : World} (h : w.cell? b = some (.pointer (some a))) : (callFunc 126 #[.agg #[hd 142, .pointer (some b), .int .u64 150]]).run Tryz.prog w = .ok (.value (.bool false)) w := by
  rw [run_callFunc_extern Tryz.func126 (by kernel_rfl) (by kernel_rfl) (by kernel_rfl) (e := ReflectliteValue.method (ReflectliteValue.valueError "reflectlite.Value.IsNil" 0) ReflectliteValue.isNil) (by kernel_rfl)]
  have e : (Sem.run Tryz.prog (ReflectliteValue.method (ReflectliteValue.valueError "reflectlite.Value.IsNil" 0) ReflectliteValue.isNil #[.agg #[hd 142, .pointer (some b), .int .u64 150]]) w) = Sem.run Tryz.prog (ReflectliteValue.isNil 142 b 150 22) w := by kernel_rfl
  rw [e]
  have ha := Tryz.isAgg142
  simp [ReflectliteValue.isNil, loadVar, ha, h, Result.andThen]
/-- Value.Elem of a pointer. -/
theorem elem_Errno {a b : Addr} {w : World} (h : w.cell? b = some (.pointer (some a))) : (callFunc 180 #[.agg #[hd 142, .pointer (some b), .int .u64 150]]).run Tryz.prog w = .ok (.value (.agg #[hd 33, .pointer (some a), .int .u64 386])) w := by
  rw [run_callFunc_extern Tryz.func180 (by kernel_rfl) (by kernel_rfl) (by kernel_rfl) (e := Extern.ReflectliteValue.method (Extern.ReflectliteValue.valueError "reflectlite.Value.Elem" 0) Extern.ReflectliteValue.elem) (by kernel_rfl)]
  have e : (Sem.run Tryz.prog (Extern.ReflectliteValue.method (Extern.ReflectliteValue.valueError "reflectlite.Value.Elem" 0) Extern.ReflectliteValue.elem #[.agg #[hd 142, .pointer (some b), .int .u64 150]]) w) = Sem.run Tryz.prog (Extern.ReflectliteValue.elem 142 b 150 22) w := by kernel_rfl
  rw [e]
  have ha := Tryz.isAgg142
  have hm : ∀ w, Sem.run Tryz.prog (Extern.Rtype.elem? 142) w = .ok (some 33) w := fun _ => by kernel_rfl
  have hk : ∀ w, Sem.run Tryz.prog (Extern.ReflectliteValue.mk 33 a Extern.ReflectliteValue.flagAddr) w = .ok (.agg #[hd 33, .pointer (some a), .int .u64 386]) w := fun _ => by kernel_rfl
  simp [Extern.ReflectliteValue.elem, loadVar, ha, h, hm, hk, Result.andThen]
theorem valueOf_pErrno (a : Addr) (w : World) : (callFunc 124 #[.iface 142 (.pointer (some a))]).run Tryz.prog w = .ok (.value (.agg #[hd 142, .pointer (some ⟨w.heap.size, 0, none⟩), .int .u64 150])) (w.alloc (.cells #[.pointer (some a)] 142)) := by kernel_rfl
theorem valType_pErrno (a : Addr) (w : World) : (callFunc 125 #[.agg #[hd 142, .pointer (some a), .int .u64 150]]).run Tryz.prog w = .ok (.value (rt 142)) w := by kernel_rfl
open Go.Extern in
theorem isNil_Panicked {a b : Addr} {w : World} (h : w.cell? b = some (.pointer (some a))) : (callFunc 126 #[.agg #[hd 198, .pointer (some b), .int .u64 150]]).run Tryz.prog w = .ok (.value (.bool false)) w := by
  rw [run_callFunc_extern Tryz.func126 (by kernel_rfl) (by kernel_rfl) (by kernel_rfl) (e := ReflectliteValue.method (ReflectliteValue.valueError "reflectlite.Value.IsNil" 0) ReflectliteValue.isNil) (by kernel_rfl)]
  have e : (Sem.run Tryz.prog (ReflectliteValue.method (ReflectliteValue.valueError "reflectlite.Value.IsNil" 0) ReflectliteValue.isNil #[.agg #[hd 198, .pointer (some b), .int .u64 150]]) w) = Sem.run Tryz.prog (ReflectliteValue.isNil 198 b 150 22) w := by kernel_rfl
  rw [e]
  have ha := Tryz.isAgg198
  simp [ReflectliteValue.isNil, loadVar, ha, h, Result.andThen]
/-- Value.Elem of a pointer. -/
theorem elem_Panicked {a b : Addr} {w : World} (h : w.cell? b = some (.pointer (some a))) : (callFunc 180 #[.agg #[hd 198, .pointer (some b), .int .u64 150]]).run Tryz.prog w = .ok (.value (.agg #[hd 196, .pointer (some a), .int .u64 406])) w := by
  rw [run_callFunc_extern Tryz.func180 (by kernel_rfl) (by kernel_rfl) (by kernel_rfl) (e := Extern.ReflectliteValue.method (Extern.ReflectliteValue.valueError "reflectlite.Value.Elem" 0) Extern.ReflectliteValue.elem) (by kernel_rfl)]
  have e : (Sem.run Tryz.prog (Extern.ReflectliteValue.method (Extern.ReflectliteValue.valueError "reflectlite.Value.Elem" 0) Extern.ReflectliteValue.elem #[.agg #[hd 198, .pointer (some b), .int .u64 150]]) w) = Sem.run Tryz.prog (Extern.ReflectliteValue.elem 198 b 150 22) w := by kernel_rfl
  rw [e]
  have ha := Tryz.isAgg198
  have hm : ∀ w, Sem.run Tryz.prog (Extern.Rtype.elem? 198) w = .ok (some 196) w := fun _ => by kernel_rfl
  have hk : ∀ w, Sem.run Tryz.prog (Extern.ReflectliteValue.mk 196 a Extern.ReflectliteValue.flagAddr) w = .ok (.agg #[hd 196, .pointer (some a), .int .u64 406]) w := fun _ => by kernel_rfl
  simp [Extern.ReflectliteValue.elem, loadVar, ha, h, hm, hk, Result.andThen]
theorem valueOf_pPanicked (a : Addr) (w : World) : (callFunc 124 #[.iface 198 (.pointer (some a))]).run Tryz.prog w = .ok (.value (.agg #[hd 198, .pointer (some ⟨w.heap.size, 0, none⟩), .int .u64 150])) (w.alloc (.cells #[.pointer (some a)] 198)) := by kernel_rfl
theorem valType_pPanicked (a : Addr) (w : World) : (callFunc 125 #[.agg #[hd 198, .pointer (some a), .int .u64 150]]).run Tryz.prog w = .ok (.value (rt 198)) w := by kernel_rfl
theorem valueOf_Errno (n : Int) (w : World) : (callFunc 124 #[.iface 33 (.int .i64 n)]).run Tryz.prog w = .ok (.value (.agg #[hd 33, .pointer (some ⟨w.heap.size, 0, none⟩), .int .u64 130])) (w.alloc (.cells #[.int .i64 n] 33)) := by kernel_rfl
theorem valueOf_At (a : Option Addr) (w : World) : (callFunc 124 #[.iface 227 (.pointer a)]).run Tryz.prog w = .ok (.value (.agg #[hd 227, .pointer (some ⟨w.heap.size, 0, none⟩), .int .u64 150])) (w.alloc (.cells #[.pointer a] 227)) := by kernel_rfl
theorem valueOf_Panicked (a : Option Addr) (w : World) : (callFunc 124 #[.iface 196 (.pointer a)]).run Tryz.prog w = .ok (.value (.agg #[hd 196, .pointer (some ⟨w.heap.size, 0, none⟩), .int .u64 150])) (w.alloc (.cells #[.pointer a] 196)) := by kernel_rfl
theorem valueOf_Failed (a : Option Addr) (w : World) : (callFunc 124 #[.iface 138 (.pointer a)]).run Tryz.prog w = .ok (.value (.agg #[hd 138, .pointer (some ⟨w.heap.size, 0, none⟩), .int .u64 150])) (w.alloc (.cells #[.pointer a] 138)) := by kernel_rfl
theorem valueOf_Cancelled (a : Option Addr) (w : World) : (callFunc 124 #[.iface 266 (.pointer a)]).run Tryz.prog w = .ok (.value (.agg #[hd 266, .pointer (some ⟨w.heap.size, 0, none⟩), .int .u64 150])) (w.alloc (.cells #[.pointer a] 266)) := by kernel_rfl
theorem valueOf_Late (a : Option Addr) (w : World) : (callFunc 124 #[.iface 154 (.pointer a)]).run Tryz.prog w = .ok (.value (.agg #[hd 154, .pointer (some ⟨w.heap.size, 0, none⟩), .int .u64 150])) (w.alloc (.cells #[.pointer a] 154)) := by kernel_rfl
end Go.Proofs.YtgljjgmfhememaaGreatDoor
