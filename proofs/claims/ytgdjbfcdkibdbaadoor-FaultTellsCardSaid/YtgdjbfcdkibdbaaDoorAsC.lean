/- errors.As with a target of one of the errors' types: what it answers and stores, over a chain of errors. Conditions: none. -/
import Derived.Test.YtgdjbfcdkibdbaaDoorAsT
namespace Go.Proofs.YtgdjbfcdkibdbaaDoor
open Go Go.RowKit
set_option maxRecDepth 100000
theorem add_zero_addr (a : Addr) : a.add 0 = a := by cases a; rfl
theorem set_Errno {a b : Addr} {w : World} {x : Int} {old : Value} (hb : w.cell? b = some (.int .i64 x)) (ha : w.cell? a = some old) (hz : w.frozen? a = false) : (callFunc 106 #[.agg #[hd 35, .pointer (some a), .int .u64 386], .agg #[hd 35, .pointer (some b), .int .u64 130]]).run Tryd.prog w = .ok (.value (.tuple #[])) (w.setCell a (.int .i64 x)) := by
  rw [run_callFunc_extern Tryd.func106 (by kernel_rfl) (by kernel_rfl) (by kernel_rfl) (e := Extern.ReflectliteValue.set) (by kernel_rfl)]
  have e : (Sem.run Tryd.prog (Extern.ReflectliteValue.set #[.agg #[hd 35, .pointer (some a), .int .u64 386], .agg #[hd 35, .pointer (some b), .int .u64 130]]) w) = Sem.run Tryd.prog (do storeVar 35 a (← loadVar 35 b); pure (.tuple #[])) w := by kernel_rfl
  rw [e]
  have hag := Tryd.isAgg35
  have hsz := Tryd.sizeOf35
  have hst := run_store Tryd.prog w a (.int .i64 x) .plain rfl
  simp [loadVar, hag, hb, storeVar, hsz, Value.cells, storeCells, hst, ha, hz, add_zero_addr, Result.andThen]

set_option maxHeartbeats 1000000 in
theorem as_hit_Errno (n : Nat) (e0 : Value) (w : World) (tgt : Value) (a b : Nat) (x : Int) (old : Value) (hb : Blk w b #[.pointer (some ⟨a, 0, none⟩)] 117) (ha : Blk w a #[old] 35)
    (hc : Chain (w.alloc (.cells #[hd 117, .pointer (some ⟨b, 0, none⟩), .int .u64 150] 134)) 35 n e0 (some (.int .i64 x))) :
    Calls Tryd.prog 85 #[e0, tgt, .agg #[hd 117, .pointer (some ⟨b, 0, none⟩), .int .u64 150], rt 35] w fun e w' => e = .returned (.bool true) ∧ ((w.alloc (.cells #[hd 117, .pointer (some ⟨b, 0, none⟩), .int .u64 150] 134)).alloc (.cells #[(.int .i64 x)] 35)).setCell ⟨a, 0, none⟩ (.int .i64 x) = w' := by
  have e1 := elem_Errno (w := w.alloc (.cells #[hd 117, .pointer (some ⟨b, 0, none⟩), .int .u64 150] 134)) ((hb.alloc _).cellAt 0 rfl)
  have e2 := valueOf_Errno x
  have e3 := set_Errno (a := ⟨a, 0, none⟩) (b := ⟨w.heap.size + 1, 0, none⟩) (w := (w.alloc (.cells #[hd 117, .pointer (some ⟨b, 0, none⟩), .int .u64 150] 134)).alloc (.cells #[(.int .i64 x)] 35)) (x := x) (old := old) (by simp) (((ha.alloc _).alloc _).cellAt 0 rfl) (((ha.alloc _).alloc _).free 0)
  clear hb ha
  go_enter Tryd.func85, Tryd.ntmps85
  go_wp2_with fail
  go_loopg [0] n (fun k p wr => Chain wr 35 k p (some (.int .i64 x)) ∧ wr = w.alloc (.cells #[hd 117, .pointer (some ⟨b, 0, none⟩), .int .u64 150] 134))
  case atStart => exact ⟨hc, rfl⟩
  case round =>
  obtain ⟨hch, rfl⟩ := hrel
  clear hc
  cases hch with
  | hit h1 h2 =>
    have k1 := h1.ty; unfold IsT at h2
    clear h1
    go_wp2_with fail
    go_ret
    exact ⟨rfl, rfl⟩
  | @more m _ _ _ _ _ h1 h2 h3 h4 =>
    have k1 := h1.ty; have k2 := h1.asI; have k3 := h3.is; unfold NotT at h2
    obtain ⟨f, k4, k5, k6⟩ := h3.call
    clear h1 h3 e1 e2 e3
    go_wp2_with fail
    refine k6.mono ?_; rintro e w' ⟨rfl, rfl⟩
    clear k6
    go_wp2_with fail
    go_roundg m
    case measure => omega
    case rel => exact ⟨h4, rfl⟩
theorem set_At {a b : Addr} {w : World} {x : Option Addr} {old : Value} (hb : w.cell? b = some (.pointer x)) (ha : w.cell? a = some old) (hz : w.frozen? a = false) : (callFunc 106 #[.agg #[hd 59, .pointer (some a), .int .u64 406], .agg #[hd 59, .pointer (some b), .int .u64 150]]).run Tryd.prog w = .ok (.value (.tuple #[])) (w.setCell a (.pointer x)) := by
  rw [run_callFunc_extern Tryd.func106 (by kernel_rfl) (by kernel_rfl) (by kernel_rfl) (e := Extern.ReflectliteValue.set) (by kernel_rfl)]
  have e : (Sem.run Tryd.prog (Extern.ReflectliteValue.set #[.agg #[hd 59, .pointer (some a), .int .u64 406], .agg #[hd 59, .pointer (some b), .int .u64 150]]) w) = Sem.run Tryd.prog (do storeVar 59 a (← loadVar 59 b); pure (.tuple #[])) w := by kernel_rfl
  rw [e]
  have hag := Tryd.isAgg59
  have hsz := Tryd.sizeOf59
  have hst := run_store Tryd.prog w a (.pointer x) .plain rfl
  simp [loadVar, hag, hb, storeVar, hsz, Value.cells, storeCells, hst, ha, hz, add_zero_addr, Result.andThen]

set_option maxHeartbeats 1000000 in
theorem as_hit_At (n : Nat) (e0 : Value) (w : World) (tgt : Value) (a b : Nat) (x : Option Addr) (old : Value) (hb : Blk w b #[.pointer (some ⟨a, 0, none⟩)] 121) (ha : Blk w a #[old] 59)
    (hc : Chain (w.alloc (.cells #[hd 121, .pointer (some ⟨b, 0, none⟩), .int .u64 150] 134)) 59 n e0 (some (.pointer x))) :
    Calls Tryd.prog 85 #[e0, tgt, .agg #[hd 121, .pointer (some ⟨b, 0, none⟩), .int .u64 150], rt 59] w fun e w' => e = .returned (.bool true) ∧ ((w.alloc (.cells #[hd 121, .pointer (some ⟨b, 0, none⟩), .int .u64 150] 134)).alloc (.cells #[(.pointer x)] 59)).setCell ⟨a, 0, none⟩ (.pointer x) = w' := by
  have e1 := elem_At (w := w.alloc (.cells #[hd 121, .pointer (some ⟨b, 0, none⟩), .int .u64 150] 134)) ((hb.alloc _).cellAt 0 rfl)
  have e2 := valueOf_At x
  have e3 := set_At (a := ⟨a, 0, none⟩) (b := ⟨w.heap.size + 1, 0, none⟩) (w := (w.alloc (.cells #[hd 121, .pointer (some ⟨b, 0, none⟩), .int .u64 150] 134)).alloc (.cells #[(.pointer x)] 59)) (x := x) (old := old) (by simp) (((ha.alloc _).alloc _).cellAt 0 rfl) (((ha.alloc _).alloc _).free 0)
  clear hb ha
  go_enter Tryd.func85, Tryd.ntmps85
  go_wp2_with fail
  go_loopg [0] n (fun k p wr => Chain wr 59 k p (some (.pointer x)) ∧ wr = w.alloc (.cells #[hd 121, .pointer (some ⟨b, 0, none⟩), .int .u64 150] 134))
  case atStart => exact ⟨hc, rfl⟩
  case round =>
  obtain ⟨hch, rfl⟩ := hrel
  clear hc
  cases hch with
  | hit h1 h2 =>
    have k1 := h1.ty; unfold IsT at h2
    clear h1
    go_wp2_with fail
    go_ret
    exact ⟨rfl, rfl⟩
  | @more m _ _ _ _ _ h1 h2 h3 h4 =>
    have k1 := h1.ty; have k2 := h1.asI; have k3 := h3.is; unfold NotT at h2
    obtain ⟨f, k4, k5, k6⟩ := h3.call
    clear h1 h3 e1 e2 e3
    go_wp2_with fail
    refine k6.mono ?_; rintro e w' ⟨rfl, rfl⟩
    clear k6
    go_wp2_with fail
    go_roundg m
    case measure => omega
    case rel => exact ⟨h4, rfl⟩
theorem set_Panicked {a b : Addr} {w : World} {x : Option Addr} {old : Value} (hb : w.cell? b = some (.pointer x)) (ha : w.cell? a = some old) (hz : w.frozen? a = false) : (callFunc 106 #[.agg #[hd 58, .pointer (some a), .int .u64 406], .agg #[hd 58, .pointer (some b), .int .u64 150]]).run Tryd.prog w = .ok (.value (.tuple #[])) (w.setCell a (.pointer x)) := by
  rw [run_callFunc_extern Tryd.func106 (by kernel_rfl) (by kernel_rfl) (by kernel_rfl) (e := Extern.ReflectliteValue.set) (by kernel_rfl)]
  have e : (Sem.run Tryd.prog (Extern.ReflectliteValue.set #[.agg #[hd 58, .pointer (some a), .int .u64 406], .agg #[hd 58, .pointer (some b), .int .u64 150]]) w) = Sem.run Tryd.prog (do storeVar 58 a (← loadVar 58 b); pure (.tuple #[])) w := by kernel_rfl
  rw [e]
  have hag := Tryd.isAgg58
  have hsz := Tryd.sizeOf58
  have hst := run_store Tryd.prog w a (.pointer x) .plain rfl
  simp [loadVar, hag, hb, storeVar, hsz, Value.cells, storeCells, hst, ha, hz, add_zero_addr, Result.andThen]

set_option maxHeartbeats 1000000 in
theorem as_hit_Panicked (n : Nat) (e0 : Value) (w : World) (tgt : Value) (a b : Nat) (x : Option Addr) (old : Value) (hb : Blk w b #[.pointer (some ⟨a, 0, none⟩)] 92) (ha : Blk w a #[old] 58)
    (hc : Chain (w.alloc (.cells #[hd 92, .pointer (some ⟨b, 0, none⟩), .int .u64 150] 134)) 58 n e0 (some (.pointer x))) :
    Calls Tryd.prog 85 #[e0, tgt, .agg #[hd 92, .pointer (some ⟨b, 0, none⟩), .int .u64 150], rt 58] w fun e w' => e = .returned (.bool true) ∧ ((w.alloc (.cells #[hd 92, .pointer (some ⟨b, 0, none⟩), .int .u64 150] 134)).alloc (.cells #[(.pointer x)] 58)).setCell ⟨a, 0, none⟩ (.pointer x) = w' := by
  have e1 := elem_Panicked (w := w.alloc (.cells #[hd 92, .pointer (some ⟨b, 0, none⟩), .int .u64 150] 134)) ((hb.alloc _).cellAt 0 rfl)
  have e2 := valueOf_Panicked x
  have e3 := set_Panicked (a := ⟨a, 0, none⟩) (b := ⟨w.heap.size + 1, 0, none⟩) (w := (w.alloc (.cells #[hd 92, .pointer (some ⟨b, 0, none⟩), .int .u64 150] 134)).alloc (.cells #[(.pointer x)] 58)) (x := x) (old := old) (by simp) (((ha.alloc _).alloc _).cellAt 0 rfl) (((ha.alloc _).alloc _).free 0)
  clear hb ha
  go_enter Tryd.func85, Tryd.ntmps85
  go_wp2_with fail
  go_loopg [0] n (fun k p wr => Chain wr 58 k p (some (.pointer x)) ∧ wr = w.alloc (.cells #[hd 92, .pointer (some ⟨b, 0, none⟩), .int .u64 150] 134))
  case atStart => exact ⟨hc, rfl⟩
  case round =>
  obtain ⟨hch, rfl⟩ := hrel
  clear hc
  cases hch with
  | hit h1 h2 =>
    have k1 := h1.ty; unfold IsT at h2
    clear h1
    go_wp2_with fail
    go_ret
    exact ⟨rfl, rfl⟩
  | @more m _ _ _ _ _ h1 h2 h3 h4 =>
    have k1 := h1.ty; have k2 := h1.asI; have k3 := h3.is; unfold NotT at h2
    obtain ⟨f, k4, k5, k6⟩ := h3.call
    clear h1 h3 e1 e2 e3
    go_wp2_with fail
    refine k6.mono ?_; rintro e w' ⟨rfl, rfl⟩
    clear k6
    go_wp2_with fail
    go_roundg m
    case measure => omega
    case rel => exact ⟨h4, rfl⟩
theorem set_Failed {a b : Addr} {w : World} {x : Option Addr} {old : Value} (hb : w.cell? b = some (.pointer x)) (ha : w.cell? a = some old) (hz : w.frozen? a = false) : (callFunc 106 #[.agg #[hd 55, .pointer (some a), .int .u64 406], .agg #[hd 55, .pointer (some b), .int .u64 150]]).run Tryd.prog w = .ok (.value (.tuple #[])) (w.setCell a (.pointer x)) := by
  rw [run_callFunc_extern Tryd.func106 (by kernel_rfl) (by kernel_rfl) (by kernel_rfl) (e := Extern.ReflectliteValue.set) (by kernel_rfl)]
  have e : (Sem.run Tryd.prog (Extern.ReflectliteValue.set #[.agg #[hd 55, .pointer (some a), .int .u64 406], .agg #[hd 55, .pointer (some b), .int .u64 150]]) w) = Sem.run Tryd.prog (do storeVar 55 a (← loadVar 55 b); pure (.tuple #[])) w := by kernel_rfl
  rw [e]
  have hag := Tryd.isAgg55
  have hsz := Tryd.sizeOf55
  have hst := run_store Tryd.prog w a (.pointer x) .plain rfl
  simp [loadVar, hag, hb, storeVar, hsz, Value.cells, storeCells, hst, ha, hz, add_zero_addr, Result.andThen]

set_option maxHeartbeats 1000000 in
theorem as_hit_Failed (n : Nat) (e0 : Value) (w : World) (tgt : Value) (a b : Nat) (x : Option Addr) (old : Value) (hb : Blk w b #[.pointer (some ⟨a, 0, none⟩)] 83) (ha : Blk w a #[old] 55)
    (hc : Chain (w.alloc (.cells #[hd 83, .pointer (some ⟨b, 0, none⟩), .int .u64 150] 134)) 55 n e0 (some (.pointer x))) :
    Calls Tryd.prog 85 #[e0, tgt, .agg #[hd 83, .pointer (some ⟨b, 0, none⟩), .int .u64 150], rt 55] w fun e w' => e = .returned (.bool true) ∧ ((w.alloc (.cells #[hd 83, .pointer (some ⟨b, 0, none⟩), .int .u64 150] 134)).alloc (.cells #[(.pointer x)] 55)).setCell ⟨a, 0, none⟩ (.pointer x) = w' := by
  have e1 := elem_Failed (w := w.alloc (.cells #[hd 83, .pointer (some ⟨b, 0, none⟩), .int .u64 150] 134)) ((hb.alloc _).cellAt 0 rfl)
  have e2 := valueOf_Failed x
  have e3 := set_Failed (a := ⟨a, 0, none⟩) (b := ⟨w.heap.size + 1, 0, none⟩) (w := (w.alloc (.cells #[hd 83, .pointer (some ⟨b, 0, none⟩), .int .u64 150] 134)).alloc (.cells #[(.pointer x)] 55)) (x := x) (old := old) (by simp) (((ha.alloc _).alloc _).cellAt 0 rfl) (((ha.alloc _).alloc _).free 0)
  clear hb ha
  go_enter Tryd.func85, Tryd.ntmps85
  go_wp2_with fail
  go_loopg [0] n (fun k p wr => Chain wr 55 k p (some (.pointer x)) ∧ wr = w.alloc (.cells #[hd 83, .pointer (some ⟨b, 0, none⟩), .int .u64 150] 134))
  case atStart => exact ⟨hc, rfl⟩
  case round =>
  obtain ⟨hch, rfl⟩ := hrel
  clear hc
  cases hch with
  | hit h1 h2 =>
    have k1 := h1.ty; unfold IsT at h2
    clear h1
    go_wp2_with fail
    go_ret
    exact ⟨rfl, rfl⟩
  | @more m _ _ _ _ _ h1 h2 h3 h4 =>
    have k1 := h1.ty; have k2 := h1.asI; have k3 := h3.is; unfold NotT at h2
    obtain ⟨f, k4, k5, k6⟩ := h3.call
    clear h1 h3 e1 e2 e3
    go_wp2_with fail
    refine k6.mono ?_; rintro e w' ⟨rfl, rfl⟩
    clear k6
    go_wp2_with fail
    go_roundg m
    case measure => omega
    case rel => exact ⟨h4, rfl⟩
theorem set_Cancelled {a b : Addr} {w : World} {x : Option Addr} {old : Value} (hb : w.cell? b = some (.pointer x)) (ha : w.cell? a = some old) (hz : w.frozen? a = false) : (callFunc 106 #[.agg #[hd 56, .pointer (some a), .int .u64 406], .agg #[hd 56, .pointer (some b), .int .u64 150]]).run Tryd.prog w = .ok (.value (.tuple #[])) (w.setCell a (.pointer x)) := by
  rw [run_callFunc_extern Tryd.func106 (by kernel_rfl) (by kernel_rfl) (by kernel_rfl) (e := Extern.ReflectliteValue.set) (by kernel_rfl)]
  have e : (Sem.run Tryd.prog (Extern.ReflectliteValue.set #[.agg #[hd 56, .pointer (some a), .int .u64 406], .agg #[hd 56, .pointer (some b), .int .u64 150]]) w) = Sem.run Tryd.prog (do storeVar 56 a (← loadVar 56 b); pure (.tuple #[])) w := by kernel_rfl
  rw [e]
  have hag := Tryd.isAgg56
  have hsz := Tryd.sizeOf56
  have hst := run_store Tryd.prog w a (.pointer x) .plain rfl
  simp [loadVar, hag, hb, storeVar, hsz, Value.cells, storeCells, hst, ha, hz, add_zero_addr, Result.andThen]

set_option maxHeartbeats 1000000 in
theorem as_hit_Cancelled (n : Nat) (e0 : Value) (w : World) (tgt : Value) (a b : Nat) (x : Option Addr) (old : Value) (hb : Blk w b #[.pointer (some ⟨a, 0, none⟩)] 86) (ha : Blk w a #[old] 56)
    (hc : Chain (w.alloc (.cells #[hd 86, .pointer (some ⟨b, 0, none⟩), .int .u64 150] 134)) 56 n e0 (some (.pointer x))) :
    Calls Tryd.prog 85 #[e0, tgt, .agg #[hd 86, .pointer (some ⟨b, 0, none⟩), .int .u64 150], rt 56] w fun e w' => e = .returned (.bool true) ∧ ((w.alloc (.cells #[hd 86, .pointer (some ⟨b, 0, none⟩), .int .u64 150] 134)).alloc (.cells #[(.pointer x)] 56)).setCell ⟨a, 0, none⟩ (.pointer x) = w' := by
  have e1 := elem_Cancelled (w := w.alloc (.cells #[hd 86, .pointer (some ⟨b, 0, none⟩), .int .u64 150] 134)) ((hb.alloc _).cellAt 0 rfl)
  have e2 := valueOf_Cancelled x
  have e3 := set_Cancelled (a := ⟨a, 0, none⟩) (b := ⟨w.heap.size + 1, 0, none⟩) (w := (w.alloc (.cells #[hd 86, .pointer (some ⟨b, 0, none⟩), .int .u64 150] 134)).alloc (.cells #[(.pointer x)] 56)) (x := x) (old := old) (by simp) (((ha.alloc _).alloc _).cellAt 0 rfl) (((ha.alloc _).alloc _).free 0)
  clear hb ha
  go_enter Tryd.func85, Tryd.ntmps85
  go_wp2_with fail
  go_loopg [0] n (fun k p wr => Chain wr 56 k p (some (.pointer x)) ∧ wr = w.alloc (.cells #[hd 86, .pointer (some ⟨b, 0, none⟩), .int .u64 150] 134))
  case atStart => exact ⟨hc, rfl⟩
  case round =>
  obtain ⟨hch, rfl⟩ := hrel
  clear hc
  cases hch with
  | hit h1 h2 =>
    have k1 := h1.ty; unfold IsT at h2
    clear h1
    go_wp2_with fail
    go_ret
    exact ⟨rfl, rfl⟩
  | @more m _ _ _ _ _ h1 h2 h3 h4 =>
    have k1 := h1.ty; have k2 := h1.asI; have k3 := h3.is; unfold NotT at h2
    obtain ⟨f, k4, k5, k6⟩ := h3.call
    clear h1 h3 e1 e2 e3
    go_wp2_with fail
    refine k6.mono ?_; rintro e w' ⟨rfl, rfl⟩
    clear k6
    go_wp2_with fail
    go_roundg m
    case measure => omega
    case rel => exact ⟨h4, rfl⟩
theorem set_Late {a b : Addr} {w : World} {x : Option Addr} {old : Value} (hb : w.cell? b = some (.pointer x)) (ha : w.cell? a = some old) (hz : w.frozen? a = false) : (callFunc 106 #[.agg #[hd 57, .pointer (some a), .int .u64 406], .agg #[hd 57, .pointer (some b), .int .u64 150]]).run Tryd.prog w = .ok (.value (.tuple #[])) (w.setCell a (.pointer x)) := by
  rw [run_callFunc_extern Tryd.func106 (by kernel_rfl) (by kernel_rfl) (by kernel_rfl) (e := Extern.ReflectliteValue.set) (by kernel_rfl)]
  have e : (Sem.run Tryd.prog (Extern.ReflectliteValue.set #[.agg #[hd 57, .pointer (some a), .int .u64 406], .agg #[hd 57, .pointer (some b), .int .u64 150]]) w) = Sem.run Tryd.prog (do storeVar 57 a (← loadVar 57 b); pure (.tuple #[])) w := by kernel_rfl
  rw [e]
  have hag := Tryd.isAgg57
  have hsz := Tryd.sizeOf57
  have hst := run_store Tryd.prog w a (.pointer x) .plain rfl
  simp [loadVar, hag, hb, storeVar, hsz, Value.cells, storeCells, hst, ha, hz, add_zero_addr, Result.andThen]

set_option maxHeartbeats 1000000 in
theorem as_hit_Late (n : Nat) (e0 : Value) (w : World) (tgt : Value) (a b : Nat) (x : Option Addr) (old : Value) (hb : Blk w b #[.pointer (some ⟨a, 0, none⟩)] 89) (ha : Blk w a #[old] 57)
    (hc : Chain (w.alloc (.cells #[hd 89, .pointer (some ⟨b, 0, none⟩), .int .u64 150] 134)) 57 n e0 (some (.pointer x))) :
    Calls Tryd.prog 85 #[e0, tgt, .agg #[hd 89, .pointer (some ⟨b, 0, none⟩), .int .u64 150], rt 57] w fun e w' => e = .returned (.bool true) ∧ ((w.alloc (.cells #[hd 89, .pointer (some ⟨b, 0, none⟩), .int .u64 150] 134)).alloc (.cells #[(.pointer x)] 57)).setCell ⟨a, 0, none⟩ (.pointer x) = w' := by
  have e1 := elem_Late (w := w.alloc (.cells #[hd 89, .pointer (some ⟨b, 0, none⟩), .int .u64 150] 134)) ((hb.alloc _).cellAt 0 rfl)
  have e2 := valueOf_Late x
  have e3 := set_Late (a := ⟨a, 0, none⟩) (b := ⟨w.heap.size + 1, 0, none⟩) (w := (w.alloc (.cells #[hd 89, .pointer (some ⟨b, 0, none⟩), .int .u64 150] 134)).alloc (.cells #[(.pointer x)] 57)) (x := x) (old := old) (by simp) (((ha.alloc _).alloc _).cellAt 0 rfl) (((ha.alloc _).alloc _).free 0)
  clear hb ha
  go_enter Tryd.func85, Tryd.ntmps85
  go_wp2_with fail
  go_loopg [0] n (fun k p wr => Chain wr 57 k p (some (.pointer x)) ∧ wr = w.alloc (.cells #[hd 89, .pointer (some ⟨b, 0, none⟩), .int .u64 150] 134))
  case atStart => exact ⟨hc, rfl⟩
  case round =>
  obtain ⟨hch, rfl⟩ := hrel
  clear hc
  cases hch with
  | hit h1 h2 =>
    have k1 := h1.ty; unfold IsT at h2
    clear h1
    go_wp2_with fail
    go_ret
    exact ⟨rfl, rfl⟩
  | @more m _ _ _ _ _ h1 h2 h3 h4 =>
    have k1 := h1.ty; have k2 := h1.asI; have k3 := h3.is; unfold NotT at h2
    obtain ⟨f, k4, k5, k6⟩ := h3.call
    clear h1 h3 e1 e2 e3
    go_wp2_with fail
    refine k6.mono ?_; rintro e w' ⟨rfl, rfl⟩
    clear k6
    go_wp2_with fail
    go_roundg m
    case measure => omega
    case rel => exact ⟨h4, rfl⟩
end Go.Proofs.YtgdjbfcdkibdbaaDoor
