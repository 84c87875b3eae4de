/- errors.As with a target of one of the errors' types: what it answers and stores, over a chain of errors. Conditions: none. -/
import Derived.Test.YtgdjbfcdkibdbaaGreatDoorAsT
namespace Go.Proofs.YtgdjbfcdkibdbaaGreatDoor
open Go Go.RowKit
set_option maxRecDepth 100000
theorem add_zero_addr (a : Addr) : a.add 0 = a := by cases a; rfl
theorem set_Errno {a b : Addr} {w : World} {x : Int} {old : Value} (hb : w.cell? b = some (.int .i64 x)) (ha : w.cell? a = some old) (hz : w.frozen? a = false) : (callFunc 190 #[.agg #[hd 35, .pointer (some a), .int .u64 386], .agg #[hd 35, .pointer (some b), .int .u64 130]]).run Tryz.prog w = .ok (.value (.tuple #[])) (w.setCell a (.int .i64 x)) := by
  rw [run_callFunc_extern Tryz.func190 (by kernel_rfl) (by kernel_rfl) (by kernel_rfl) (e := Extern.ReflectliteValue.set) (by kernel_rfl)]
  have e : (Sem.run Tryz.prog (Extern.ReflectliteValue.set #[.agg #[hd 35, .pointer (some a), .int .u64 386], .agg #[hd 35, .pointer (some b), .int .u64 130]]) w) = Sem.run Tryz.prog (do storeVar 35 a (← loadVar 35 b); pure (.tuple #[])) w := by kernel_rfl
  rw [e]
  have hag := Tryz.isAgg35
  have hsz := Tryz.sizeOf35
  have hst := run_store Tryz.prog w a (.int .i64 x) .plain rfl
  simp [loadVar, hag, hb, storeVar, hsz, Value.cells, storeCells, hst, ha, hz, add_zero_addr, Result.andThen]

set_option maxHeartbeats 1000000 in
theorem as_hit_Errno (n : Nat) (e0 : Value) (w : World) (tgt : Value) (a b : Nat) (x : Int) (old : Value) (hb : Blk w b #[.pointer (some ⟨a, 0, none⟩)] 139) (ha : Blk w a #[old] 35)
    (hc : Chain (w.alloc (.cells #[hd 139, .pointer (some ⟨b, 0, none⟩), .int .u64 150] 225)) 35 n e0 (some (.int .i64 x))) :
    Calls Tryz.prog 143 #[e0, tgt, .agg #[hd 139, .pointer (some ⟨b, 0, none⟩), .int .u64 150], rt 35] w fun e w' => e = .returned (.bool true) ∧ ((w.alloc (.cells #[hd 139, .pointer (some ⟨b, 0, none⟩), .int .u64 150] 225)).alloc (.cells #[(.int .i64 x)] 35)).setCell ⟨a, 0, none⟩ (.int .i64 x) = w' := by
  have e1 := elem_Errno (w := w.alloc (.cells #[hd 139, .pointer (some ⟨b, 0, none⟩), .int .u64 150] 225)) ((hb.alloc _).cellAt 0 rfl)
  have e2 := valueOf_Errno x
  have e3 := set_Errno (a := ⟨a, 0, none⟩) (b := ⟨w.heap.size + 1, 0, none⟩) (w := (w.alloc (.cells #[hd 139, .pointer (some ⟨b, 0, none⟩), .int .u64 150] 225)).alloc (.cells #[(.int .i64 x)] 35)) (x := x) (old := old) (by simp) (((ha.alloc _).alloc _).cellAt 0 rfl) (((ha.alloc _).alloc _).free 0)
  clear hb ha
  go_enter Tryz.func143, Tryz.ntmps143
  go_wp2_with fail
  go_loopg [0] n (fun k p wr => Chain wr 35 k p (some (.int .i64 x)) ∧ wr = w.alloc (.cells #[hd 139, .pointer (some ⟨b, 0, none⟩), .int .u64 150] 225))
  case atStart => exact ⟨hc, rfl⟩
  case round =>
  obtain ⟨hch, rfl⟩ := hrel
  clear hc
  cases hch with
  | hit h1 h2 =>
    have k1 := h1.ty; unfold IsT at h2
    clear h1
    go_wp2_with fail
    go_ret
    exact ⟨rfl, rfl⟩
  | @more m _ _ _ _ _ h1 h2 h3 h4 =>
    have k1 := h1.ty; have k2 := h1.asI; have k3 := h3.is; unfold NotT at h2
    obtain ⟨f, k4, k5, k6⟩ := h3.call
    clear h1 h3 e1 e2 e3
    go_wp2_with fail
    refine k6.mono ?_; rintro e w' ⟨rfl, rfl⟩
    clear k6
    go_wp2_with fail
    go_roundg m
    case measure => omega
    case rel => exact ⟨h4, rfl⟩

theorem set_Panicked {a b : Addr} {w : World} {x : Option Addr} {old : Value} (hb : w.cell? b = some (.pointer x)) (ha : w.cell? a = some old) (hz : w.frozen? a = false) : (callFunc 190 #[.agg #[hd 200, .pointer (some a), .int .u64 406], .agg #[hd 200, .pointer (some b), .int .u64 150]]).run Tryz.prog w = .ok (.value (.tuple #[])) (w.setCell a (.pointer x)) := by
  rw [run_callFunc_extern Tryz.func190 (by kernel_rfl) (by kernel_rfl) (by kernel_rfl) (e := Extern.ReflectliteValue.set) (by kernel_rfl)]
  have e : (Sem.run Tryz.prog (Extern.ReflectliteValue.set #[.agg #[hd 200, .pointer (some a), .int .u64 406], .agg #[hd 200, .pointer (some b), .int .u64 150]]) w) = Sem.run Tryz.prog (do storeVar 200 a (← loadVar 200 b); pure (.tuple #[])) w := by kernel_rfl
  rw [e]
  have hag := Tryz.isAgg200
  have hsz := Tryz.sizeOf200
  have hst := run_store Tryz.prog w a (.pointer x) .plain rfl
  simp [loadVar, hag, hb, storeVar, hsz, Value.cells, storeCells, hst, ha, hz, add_zero_addr, Result.andThen]

set_option maxHeartbeats 1000000 in
theorem as_hit_Panicked (n : Nat) (e0 : Value) (w : World) (tgt : Value) (a b : Nat) (x : Option Addr) (old : Value) (hb : Blk w b #[.pointer (some ⟨a, 0, none⟩)] 202) (ha : Blk w a #[old] 200)
    (hc : Chain (w.alloc (.cells #[hd 202, .pointer (some ⟨b, 0, none⟩), .int .u64 150] 225)) 200 n e0 (some (.pointer x))) :
    Calls Tryz.prog 143 #[e0, tgt, .agg #[hd 202, .pointer (some ⟨b, 0, none⟩), .int .u64 150], rt 200] w fun e w' => e = .returned (.bool true) ∧ ((w.alloc (.cells #[hd 202, .pointer (some ⟨b, 0, none⟩), .int .u64 150] 225)).alloc (.cells #[(.pointer x)] 200)).setCell ⟨a, 0, none⟩ (.pointer x) = w' := by
  have e1 := elem_Panicked (w := w.alloc (.cells #[hd 202, .pointer (some ⟨b, 0, none⟩), .int .u64 150] 225)) ((hb.alloc _).cellAt 0 rfl)
  have e2 := valueOf_Panicked x
  have e3 := set_Panicked (a := ⟨a, 0, none⟩) (b := ⟨w.heap.size + 1, 0, none⟩) (w := (w.alloc (.cells #[hd 202, .pointer (some ⟨b, 0, none⟩), .int .u64 150] 225)).alloc (.cells #[(.pointer x)] 200)) (x := x) (old := old) (by simp) (((ha.alloc _).alloc _).cellAt 0 rfl) (((ha.alloc _).alloc _).free 0)
  clear hb ha
  go_enter Tryz.func143, Tryz.ntmps143
  go_wp2_with fail
  go_loopg [0] n (fun k p wr => Chain wr 200 k p (some (.pointer x)) ∧ wr = w.alloc (.cells #[hd 202, .pointer (some ⟨b, 0, none⟩), .int .u64 150] 225))
  case atStart => exact ⟨hc, rfl⟩
  case round =>
  obtain ⟨hch, rfl⟩ := hrel
  clear hc
  cases hch with
  | hit h1 h2 =>
    have k1 := h1.ty; unfold IsT at h2
    clear h1
    go_wp2_with fail
    go_ret
    exact ⟨rfl, rfl⟩
  | @more m _ _ _ _ _ h1 h2 h3 h4 =>
    have k1 := h1.ty; have k2 := h1.asI; have k3 := h3.is; unfold NotT at h2
    obtain ⟨f, k4, k5, k6⟩ := h3.call
    clear h1 h3 e1 e2 e3
    go_wp2_with fail
    refine k6.mono ?_; rintro e w' ⟨rfl, rfl⟩
    clear k6
    go_wp2_with fail
    go_roundg m
    case measure => omega
    case rel => exact ⟨h4, rfl⟩



end Go.Proofs.YtgdjbfcdkibdbaaGreatDoor
