/- The entries of reflectlite at pointers to errors' types. Conditions: none. -/
import Derived.Test.YtgdjbfcdkibdbaaDoorAs
namespace Go.Proofs.YtgdjbfcdkibdbaaDoor
open Go Go.RowKit
set_option maxRecDepth 100000
open Go.Extern in
theorem isNil_Errno {a b : Addr} {w : World} (h : w.cell? b = some (.pointer (some a))) : (callFunc 84 #[.agg #[hd 117, .pointer (some b), .int .u64 150]]).run Tryd.prog w = .ok (.value (.bool false)) w := by
  rw [run_callFunc_extern Tryd.func84 (by kernel_rfl) (by kernel_rfl) (by kernel_rfl) (e := ReflectliteValue.method (ReflectliteValue.valueError "reflectlite.Value.IsNil" 0) ReflectliteValue.isNil) (by kernel_rfl)]
  have e : (Sem.run Tryd.prog (ReflectliteValue.method (ReflectliteValue.valueError "reflectlite.Value.IsNil" 0) ReflectliteValue.isNil #[.agg #[hd 117, .pointer (some b), .int .u64 150]]) w) = Sem.run Tryd.prog (ReflectliteValue.isNil 117 b 150 22) w := by kernel_rfl
  rw [e]
  have ha := Tryd.isAgg117
  simp [ReflectliteValue.isNil, loadVar, ha, h, Result.andThen]
/-- Value.Elem of a pointer. -/
theorem elem_Errno {a b : Addr} {w : World} (h : w.cell? b = some (.pointer (some a))) : (callFunc 105 #[.agg #[hd 117, .pointer (some b), .int .u64 150]]).run Tryd.prog w = .ok (.value (.agg #[hd 35, .pointer (some a), .int .u64 386])) w := by
  rw [run_callFunc_extern Tryd.func105 (by kernel_rfl) (by kernel_rfl) (by kernel_rfl) (e := Extern.ReflectliteValue.method (Extern.ReflectliteValue.valueError "reflectlite.Value.Elem" 0) Extern.ReflectliteValue.elem) (by kernel_rfl)]
  have e : (Sem.run Tryd.prog (Extern.ReflectliteValue.method (Extern.ReflectliteValue.valueError "reflectlite.Value.Elem" 0) Extern.ReflectliteValue.elem #[.agg #[hd 117, .pointer (some b), .int .u64 150]]) w) = Sem.run Tryd.prog (Extern.ReflectliteValue.elem 117 b 150 22) w := by kernel_rfl
  rw [e]
  have ha := Tryd.isAgg117
  have hm : ∀ w, Sem.run Tryd.prog (Extern.Rtype.elem? 117) w = .ok (some 35) w := fun _ => by kernel_rfl
  have hk : ∀ w, Sem.run Tryd.prog (Extern.ReflectliteValue.mk 35 a Extern.ReflectliteValue.flagAddr) w = .ok (.agg #[hd 35, .pointer (some a), .int .u64 386]) w := fun _ => by kernel_rfl
  simp [Extern.ReflectliteValue.elem, loadVar, ha, h, hm, hk, Result.andThen]
theorem valueOf_pErrno (a : Addr) (w : World) : (callFunc 82 #[.iface 117 (.pointer (some a))]).run Tryd.prog w = .ok (.value (.agg #[hd 117, .pointer (some ⟨w.heap.size, 0, none⟩), .int .u64 150])) (w.alloc (.cells #[.pointer (some a)] 117)) := by kernel_rfl
theorem valType_pErrno (a : Addr) (w : World) : (callFunc 83 #[.agg #[hd 117, .pointer (some a), .int .u64 150]]).run Tryd.prog w = .ok (.value (rt 117)) w := by kernel_rfl
open Go.Extern in
theorem isNil_At {a b : Addr} {w : World} (h : w.cell? b = some (.pointer (some a))) : (callFunc 84 #[.agg #[hd 121, .pointer (some b), .int .u64 150]]).run Tryd.prog w = .ok (.value (.bool false)) w := by
  rw [run_callFunc_extern Tryd.func84 (by kernel_rfl) (by kernel_rfl) (by kernel_rfl) (e := ReflectliteValue.method (ReflectliteValue.valueError "reflectlite.Value.IsNil" 0) ReflectliteValue.isNil) (by kernel_rfl)]
  have e : (Sem.run Tryd.prog (ReflectliteValue.method (ReflectliteValue.valueError "reflectlite.Value.IsNil" 0) ReflectliteValue.isNil #[.agg #[hd 121, .pointer (some b), .int .u64 150]]) w) = Sem.run Tryd.prog (ReflectliteValue.isNil 121 b 150 22) w := by kernel_rfl
  rw [e]
  have ha := Tryd.isAgg121
  simp [ReflectliteValue.isNil, loadVar, ha, h, Result.andThen]
/-- Value.Elem of a pointer. -/
theorem elem_At {a b : Addr} {w : World} (h : w.cell? b = some (.pointer (some a))) : (callFunc 105 #[.agg #[hd 121, .pointer (some b), .int .u64 150]]).run Tryd.prog w = .ok (.value (.agg #[hd 59, .pointer (some a), .int .u64 406])) w := by
  rw [run_callFunc_extern Tryd.func105 (by kernel_rfl) (by kernel_rfl) (by kernel_rfl) (e := Extern.ReflectliteValue.method (Extern.ReflectliteValue.valueError "reflectlite.Value.Elem" 0) Extern.ReflectliteValue.elem) (by kernel_rfl)]
  have e : (Sem.run Tryd.prog (Extern.ReflectliteValue.method (Extern.ReflectliteValue.valueError "reflectlite.Value.Elem" 0) Extern.ReflectliteValue.elem #[.agg #[hd 121, .pointer (some b), .int .u64 150]]) w) = Sem.run Tryd.prog (Extern.ReflectliteValue.elem 121 b 150 22) w := by kernel_rfl
  rw [e]
  have ha := Tryd.isAgg121
  have hm : ∀ w, Sem.run Tryd.prog (Extern.Rtype.elem? 121) w = .ok (some 59) w := fun _ => by kernel_rfl
  have hk : ∀ w, Sem.run Tryd.prog (Extern.ReflectliteValue.mk 59 a Extern.ReflectliteValue.flagAddr) w = .ok (.agg #[hd 59, .pointer (some a), .int .u64 406]) w := fun _ => by kernel_rfl
  simp [Extern.ReflectliteValue.elem, loadVar, ha, h, hm, hk, Result.andThen]
theorem valueOf_pAt (a : Addr) (w : World) : (callFunc 82 #[.iface 121 (.pointer (some a))]).run Tryd.prog w = .ok (.value (.agg #[hd 121, .pointer (some ⟨w.heap.size, 0, none⟩), .int .u64 150])) (w.alloc (.cells #[.pointer (some a)] 121)) := by kernel_rfl
theorem valType_pAt (a : Addr) (w : World) : (callFunc 83 #[.agg #[hd 121, .pointer (some a), .int .u64 150]]).run Tryd.prog w = .ok (.value (rt 121)) w := by kernel_rfl
open Go.Extern in
theorem isNil_Panicked {a b : Addr} {w : World} (h : w.cell? b = some (.pointer (some a))) : (callFunc 84 #[.agg #[hd 92, .pointer (some b), .int .u64 150]]).run Tryd.prog w = .ok (.value (.bool false)) w := by
  rw [run_callFunc_extern Tryd.func84 (by kernel_rfl) (by kernel_rfl) (by kernel_rfl) (e := ReflectliteValue.method (ReflectliteValue.valueError "reflectlite.Value.IsNil" 0) ReflectliteValue.isNil) (by kernel_rfl)]
  have e : (Sem.run Tryd.prog (ReflectliteValue.method (ReflectliteValue.valueError "reflectlite.Value.IsNil" 0) ReflectliteValue.isNil #[.agg #[hd 92, .pointer (some b), .int .u64 150]]) w) = Sem.run Tryd.prog (ReflectliteValue.isNil 92 b 150 22) w := by kernel_rfl
  rw [e]
  have ha := Tryd.isAgg92
  simp [ReflectliteValue.isNil, loadVar, ha, h, Result.andThen]
/-- Value.Elem of a pointer. -/
theorem elem_Panicked {a b : Addr} {w : World} (h : w.cell? b = some (.pointer (some a))) : (callFunc 105 #[.agg #[hd 92, .pointer (some b), .int .u64 150]]).run Tryd.prog w = .ok (.value (.agg #[hd 58, .pointer (some a), .int .u64 406])) w := by
  rw [run_callFunc_extern Tryd.func105 (by kernel_rfl) (by kernel_rfl) (by kernel_rfl) (e := Extern.ReflectliteValue.method (Extern.ReflectliteValue.valueError "reflectlite.Value.Elem" 0) Extern.ReflectliteValue.elem) (by kernel_rfl)]
  have e : (Sem.run Tryd.prog (Extern.ReflectliteValue.method (Extern.ReflectliteValue.valueError "reflectlite.Value.Elem" 0) Extern.ReflectliteValue.elem #[.agg #[hd 92, .pointer (some b), .int .u64 150]]) w) = Sem.run Tryd.prog (Extern.ReflectliteValue.elem 92 b 150 22) w := by kernel_rfl
  rw [e]
  have ha := Tryd.isAgg92
  have hm : ∀ w, Sem.run Tryd.prog (Extern.Rtype.elem? 92) w = .ok (some 58) w := fun _ => by kernel_rfl
  have hk : ∀ w, Sem.run Tryd.prog (Extern.ReflectliteValue.mk 58 a Extern.ReflectliteValue.flagAddr) w = .ok (.agg #[hd 58, .pointer (some a), .int .u64 406]) w := fun _ => by kernel_rfl
  simp [Extern.ReflectliteValue.elem, loadVar, ha, h, hm, hk, Result.andThen]
theorem valueOf_pPanicked (a : Addr) (w : World) : (callFunc 82 #[.iface 92 (.pointer (some a))]).run Tryd.prog w = .ok (.value (.agg #[hd 92, .pointer (some ⟨w.heap.size, 0, none⟩), .int .u64 150])) (w.alloc (.cells #[.pointer (some a)] 92)) := by kernel_rfl
theorem valType_pPanicked (a : Addr) (w : World) : (callFunc 83 #[.agg #[hd 92, .pointer (some a), .int .u64 150]]).run Tryd.prog w = .ok (.value (rt 92)) w := by kernel_rfl
open Go.Extern in
theorem isNil_Failed {a b : Addr} {w : World} (h : w.cell? b = some (.pointer (some a))) : (callFunc 84 #[.agg #[hd 83, .pointer (some b), .int .u64 150]]).run Tryd.prog w = .ok (.value (.bool false)) w := by
  rw [run_callFunc_extern Tryd.func84 (by kernel_rfl) (by kernel_rfl) (by kernel_rfl) (e := ReflectliteValue.method (ReflectliteValue.valueError "reflectlite.Value.IsNil" 0) ReflectliteValue.isNil) (by kernel_rfl)]
  have e : (Sem.run Tryd.prog (ReflectliteValue.method (ReflectliteValue.valueError "reflectlite.Value.IsNil" 0) ReflectliteValue.isNil #[.agg #[hd 83, .pointer (some b), .int .u64 150]]) w) = Sem.run Tryd.prog (ReflectliteValue.isNil 83 b 150 22) w := by kernel_rfl
  rw [e]
  have ha := Tryd.isAgg83
  simp [ReflectliteValue.isNil, loadVar, ha, h, Result.andThen]
/-- Value.Elem of a pointer. -/
theorem elem_Failed {a b : Addr} {w : World} (h : w.cell? b = some (.pointer (some a))) : (callFunc 105 #[.agg #[hd 83, .pointer (some b), .int .u64 150]]).run Tryd.prog w = .ok (.value (.agg #[hd 55, .pointer (some a), .int .u64 406])) w := by
  rw [run_callFunc_extern Tryd.func105 (by kernel_rfl) (by kernel_rfl) (by kernel_rfl) (e := Extern.ReflectliteValue.method (Extern.ReflectliteValue.valueError "reflectlite.Value.Elem" 0) Extern.ReflectliteValue.elem) (by kernel_rfl)]
  have e : (Sem.run Tryd.prog (Extern.ReflectliteValue.method (Extern.ReflectliteValue.valueError "reflectlite.Value.Elem" 0) Extern.ReflectliteValue.elem #[.agg #[hd 83, .pointer (some b), .int .u64 150]]) w) = Sem.run Tryd.prog (Extern.ReflectliteValue.elem 83 b 150 22) w := by kernel_rfl
  rw [e]
  have ha := Tryd.isAgg83
  have hm : ∀ w, Sem.run Tryd.prog (Extern.Rtype.elem? 83) w = .ok (some 55) w := fun _ => by kernel_rfl
  have hk : ∀ w, Sem.run Tryd.prog (Extern.ReflectliteValue.mk 55 a Extern.ReflectliteValue.flagAddr) w = .ok (.agg #[hd 55, .pointer (some a), .int .u64 406]) w := fun _ => by kernel_rfl
  simp [Extern.ReflectliteValue.elem, loadVar, ha, h, hm, hk, Result.andThen]
theorem valueOf_pFailed (a : Addr) (w : World) : (callFunc 82 #[.iface 83 (.pointer (some a))]).run Tryd.prog w = .ok (.value (.agg #[hd 83, .pointer (some ⟨w.heap.size, 0, none⟩), .int .u64 150])) (w.alloc (.cells #[.pointer (some a)] 83)) := by kernel_rfl
theorem valType_pFailed (a : Addr) (w : World) : (callFunc 83 #[.agg #[hd 83, .pointer (some a), .int .u64 150]]).run Tryd.prog w = .ok (.value (rt 83)) w := by kernel_rfl
open Go.Extern in
theorem isNil_Cancelled {a b : Addr} {w : World} (h : w.cell? b = some (.pointer (some a))) : (callFunc 84 #[.agg #[hd 86, .pointer (some b), .int .u64 150]]).run Tryd.prog w = .ok (.value (.bool false)) w := by
  rw [run_callFunc_extern Tryd.func84 (by kernel_rfl) (by kernel_rfl) (by kernel_rfl) (e := ReflectliteValue.method (ReflectliteValue.valueError "reflectlite.Value.IsNil" 0) ReflectliteValue.isNil) (by kernel_rfl)]
  have e : (Sem.run Tryd.prog (ReflectliteValue.method (ReflectliteValue.valueError "reflectlite.Value.IsNil" 0) ReflectliteValue.isNil #[.agg #[hd 86, .pointer (some b), .int .u64 150]]) w) = Sem.run Tryd.prog (ReflectliteValue.isNil 86 b 150 22) w := by kernel_rfl
  rw [e]
  have ha := Tryd.isAgg86
  simp [ReflectliteValue.isNil, loadVar, ha, h, Result.andThen]
/-- Value.Elem of a pointer. -/
theorem elem_Cancelled {a b : Addr} {w : World} (h : w.cell? b = some (.pointer (some a))) : (callFunc 105 #[.agg #[hd 86, .pointer (some b), .int .u64 150]]).run Tryd.prog w = .ok (.value (.agg #[hd 56, .pointer (some a), .int .u64 406])) w := by
  rw [run_callFunc_extern Tryd.func105 (by kernel_rfl) (by kernel_rfl) (by kernel_rfl) (e := Extern.ReflectliteValue.method (Extern.ReflectliteValue.valueError "reflectlite.Value.Elem" 0) Extern.ReflectliteValue.elem) (by kernel_rfl)]
  have e : (Sem.run Tryd.prog (Extern.ReflectliteValue.method (Extern.ReflectliteValue.valueError "reflectlite.Value.Elem" 0) Extern.ReflectliteValue.elem #[.agg #[hd 86, .pointer (some b), .int .u64 150]]) w) = Sem.run Tryd.prog (Extern.ReflectliteValue.elem 86 b 150 22) w := by kernel_rfl
  rw [e]
  have ha := Tryd.isAgg86
  have hm : ∀ w, Sem.run Tryd.prog (Extern.Rtype.elem? 86) w = .ok (some 56) w := fun _ => by kernel_rfl
  have hk : ∀ w, Sem.run Tryd.prog (Extern.ReflectliteValue.mk 56 a Extern.ReflectliteValue.flagAddr) w = .ok (.agg #[hd 56, .pointer (some a), .int .u64 406]) w := fun _ => by kernel_rfl
  simp [Extern.ReflectliteValue.elem, loadVar, ha, h, hm, hk, Result.andThen]
theorem valueOf_pCancelled (a : Addr) (w : World) : (callFunc 82 #[.iface 86 (.pointer (some a))]).run Tryd.prog w = .ok (.value (.agg #[hd 86, .pointer (some ⟨w.heap.size, 0, none⟩), .int .u64 150])) (w.alloc (.cells #[.pointer (some a)] 86)) := by kernel_rfl
theorem valType_pCancelled (a : Addr) (w : World) : (callFunc 83 #[.agg #[hd 86, .pointer (some a), .int .u64 150]]).run Tryd.prog w = .ok (.value (rt 86)) w := by kernel_rfl
open Go.Extern in
theorem isNil_Late {a b : Addr} {w : World} (h : w.cell? b = some (.pointer (some a))) : (callFunc 84 #[.agg #[hd 89, .pointer (some b), .int .u64 150]]).run Tryd.prog w = .ok (.value (.bool false)) w := by
  rw [run_callFunc_extern Tryd.func84 (by kernel_rfl) (by kernel_rfl) (by kernel_rfl) (e := ReflectliteValue.method (ReflectliteValue.valueError "reflectlite.Value.IsNil" 0) ReflectliteValue.isNil) (by kernel_rfl)]
  have e : (Sem.run Tryd.prog (ReflectliteValue.method (ReflectliteValue.valueError "reflectlite.Value.IsNil" 0) ReflectliteValue.isNil #[.agg #[hd 89, .pointer (some b), .int .u64 150]]) w) = Sem.run Tryd.prog (ReflectliteValue.isNil 89 b 150 22) w := by kernel_rfl
  rw [e]
  have ha := Tryd.isAgg89
  simp [ReflectliteValue.isNil, loadVar, ha, h, Result.andThen]
/-- Value.Elem of a pointer. -/
theorem elem_Late {a b : Addr} {w : World} (h : w.cell? b = some (.pointer (some a))) : (callFunc 105 #[.agg #[hd 89, .pointer (some b), .int .u64 150]]).run Tryd.prog w = .ok (.value (.agg #[hd 57, .pointer (some a), .int .u64 406])) w := by
  rw [run_callFunc_extern Tryd.func105 (by kernel_rfl) (by kernel_rfl) (by kernel_rfl) (e := Extern.ReflectliteValue.method (Extern.ReflectliteValue.valueError "reflectlite.Value.Elem" 0) Extern.ReflectliteValue.elem) (by kernel_rfl)]
  have e : (Sem.run Tryd.prog (Extern.ReflectliteValue.method (Extern.ReflectliteValue.valueError "reflectlite.Value.Elem" 0) Extern.ReflectliteValue.elem #[.agg #[hd 89, .pointer (some b), .int .u64 150]]) w) = Sem.run Tryd.prog (Extern.ReflectliteValue.elem 89 b 150 22) w := by kernel_rfl
  rw [e]
  have ha := Tryd.isAgg89
  have hm : ∀ w, Sem.run Tryd.prog (Extern.Rtype.elem? 89) w = .ok (some 57) w := fun _ => by kernel_rfl
  have hk : ∀ w, Sem.run Tryd.prog (Extern.ReflectliteValue.mk 57 a Extern.ReflectliteValue.flagAddr) w = .ok (.agg #[hd 57, .pointer (some a), .int .u64 406]) w := fun _ => by kernel_rfl
  simp [Extern.ReflectliteValue.elem, loadVar, ha, h, hm, hk, Result.andThen]
theorem valueOf_pLate (a : Addr) (w : World) : (callFunc 82 #[.iface 89 (.pointer (some a))]).run Tryd.prog w = .ok (.value (.agg #[hd 89, .pointer (some ⟨w.heap.size, 0, none⟩), .int .u64 150])) (w.alloc (.cells #[.pointer (some a)] 89)) := by kernel_rfl
theorem valType_pLate (a : Addr) (w : World) : (callFunc 83 #[.agg #[hd 89, .pointer (some a), .int .u64 150]]).run Tryd.prog w = .ok (.value (rt 89)) w := by kernel_rfl
theorem valueOf_Errno (n : Int) (w : World) : (callFunc 82 #[.iface 35 (.int .i64 n)]).run Tryd.prog w = .ok (.value (.agg #[hd 35, .pointer (some ⟨w.heap.size, 0, none⟩), .int .u64 130])) (w.alloc (.cells #[.int .i64 n] 35)) := by kernel_rfl
theorem valueOf_At (a : Option Addr) (w : World) : (callFunc 82 #[.iface 59 (.pointer a)]).run Tryd.prog w = .ok (.value (.agg #[hd 59, .pointer (some ⟨w.heap.size, 0, none⟩), .int .u64 150])) (w.alloc (.cells #[.pointer a] 59)) := by kernel_rfl
theorem valueOf_Panicked (a : Option Addr) (w : World) : (callFunc 82 #[.iface 58 (.pointer a)]).run Tryd.prog w = .ok (.value (.agg #[hd 58, .pointer (some ⟨w.heap.size, 0, none⟩), .int .u64 150])) (w.alloc (.cells #[.pointer a] 58)) := by kernel_rfl
theorem valueOf_Failed (a : Option Addr) (w : World) : (callFunc 82 #[.iface 55 (.pointer a)]).run Tryd.prog w = .ok (.value (.agg #[hd 55, .pointer (some ⟨w.heap.size, 0, none⟩), .int .u64 150])) (w.alloc (.cells #[.pointer a] 55)) := by kernel_rfl
theorem valueOf_Cancelled (a : Option Addr) (w : World) : (callFunc 82 #[.iface 56 (.pointer a)]).run Tryd.prog w = .ok (.value (.agg #[hd 56, .pointer (some ⟨w.heap.size, 0, none⟩), .int .u64 150])) (w.alloc (.cells #[.pointer a] 56)) := by kernel_rfl
theorem valueOf_Late (a : Option Addr) (w : World) : (callFunc 82 #[.iface 57 (.pointer a)]).run Tryd.prog w = .ok (.value (.agg #[hd 57, .pointer (some ⟨w.heap.size, 0, none⟩), .int .u64 150])) (w.alloc (.cells #[.pointer a] 57)) := by kernel_rfl
end Go.Proofs.YtgdjbfcdkibdbaaDoor
