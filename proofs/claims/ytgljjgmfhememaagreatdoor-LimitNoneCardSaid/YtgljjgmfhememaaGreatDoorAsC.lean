/- errors.As with a target of one of the errors' types: what it answers and stores, over a chain of errors. Conditions: none. -/
import Derived.Test.YtgljjgmfhememaaGreatDoorAsT
namespace Go.Proofs.YtgljjgmfhememaaGreatDoor
open Go Go.RowKit
set_option maxRecDepth 100000
theorem add_zero_addr (a : Addr) : a.add 0 = a := by cases a; rfl
theorem set_Errno {a b : Addr} {w : World} {x : Int} {old : Value} (hb : w.cell? b = some (.int .i64 x)) (ha : w.cell? a = some old) (hz : w.frozen? a = false) : (callFunc 181 #[.agg #[hd 33, .pointer (some a), .int .u64 386], .agg #[hd 33, .pointer (some b), .int .u64 130]]).run Tryz.prog w = .ok (.value (.tuple #[])) (w.setCell a (.int .i64 x)) := by
  rw [run_callFunc_extern Tryz.func181 (by kernel_rfl) (by kernel_rfl) (by kernel_rfl) (e := Extern.ReflectliteValue.set) (by kernel_rfl)]
  have e : (Sem.run Tryz.prog (Extern.ReflectliteValue.set #[.agg #[hd 33, .pointer (some a), .int .u64 386], .agg #[hd 33, .pointer (some b), .int .u64 130]]) w) = Sem.run Tryz.prog (do storeVar 33 a (← loadVar 33 b); pure (.tuple #[])) w := by kernel_rfl
  rw [e]
  have hag := Tryz.isAgg33
  have hsz := Tryz.sizeOf33
  have hst := run_store Tryz.prog w a (.int .i64 x) .plain rfl
  simp [loadVar, hag, hb, storeVar, hsz, Value.cells, storeCells, hst, ha, hz, add_zero_addr, Result.andThen]

set_option maxHeartbeats 1000000 in
theorem as_hit_Errno (n : Nat) (e0 : Value) (w : World) (tgt : Value) (a b : Nat) (x : Int) (old : Value) (hb : Blk w b #[.pointer (some ⟨a, 0, none⟩)] 142) (ha : Blk w a #[old] 33)
    (hc : Chain (w.alloc (.cells #[hd 142, .pointer (some ⟨b, 0, none⟩), .int .u64 150] 233)) 33 n e0 (some (.int .i64 x))) :
    Calls Tryz.prog 127 #[e0, tgt, .agg #[hd 142, .pointer (some ⟨b, 0, none⟩), .int .u64 150], rt 33] w fun e w' => e = .returned (.bool true) ∧ ((w.alloc (.cells #[hd 142, .pointer (some ⟨b, 0, none⟩), .int .u64 150] 233)).alloc (.cells #[(.int .i64 x)] 33)).setCell ⟨a, 0, none⟩ (.int .i64 x) = w' := by
  have e1 := elem_Errno (w := w.alloc (.cells #[hd 142, .pointer (some ⟨b, 0, none⟩), .int .u64 150] 233)) ((hb.alloc _).cellAt 0 rfl)
  have e2 := valueOf_Errno x
  have e3 := set_Errno (a := ⟨a, 0, none⟩) (b := ⟨w.heap.size + 1, 0, none⟩) (w := (w.alloc (.cells #[hd 142, .pointer (some ⟨b, 0, none⟩), .int .u64 150] 233)).alloc (.cells #[(.int .i64 x)] 33)) (x := x) (old := old) (by simp) (((ha.alloc _).alloc _).cellAt 0 rfl) (((ha.alloc _).alloc _).free 0)
  clear hb ha
  go_enter Tryz.func127, Tryz.ntmps127
  go_wp2_with fail
  go_loopg [0] n (fun k p wr => Chain wr 33 k p (some (.int .i64 x)) ∧ wr = w.alloc (.cells #[hd 142, .pointer (some ⟨b, 0, none⟩), .int .u64 150] 233))
  case atStart => exact ⟨hc, rfl⟩
  case round =>
  obtain ⟨hch, rfl⟩ := hrel
  clear hc
  cases hch with
  | hit h1 h2 =>
    have k1 := h1.ty; unfold IsT at h2
    clear h1
    go_wp2_with fail
    go_ret
    exact ⟨rfl, rfl⟩
  | @more m _ _ _ _ _ h1 h2 h3 h4 =>
    have k1 := h1.ty; have k2 := h1.asI; have k3 := h3.is; unfold NotT at h2
    obtain ⟨f, k4, k5, k6⟩ := h3.call
    clear h1 h3 e1 e2 e3
    go_wp2_with fail
    refine k6.mono ?_; rintro e w' ⟨rfl, rfl⟩
    clear k6
    go_wp2_with fail
    go_roundg m
    case measure => omega
    case rel => exact ⟨h4, rfl⟩

theorem set_Panicked {a b : Addr} {w : World} {x : Option Addr} {old : Value} (hb : w.cell? b = some (.pointer x)) (ha : w.cell? a = some old) (hz : w.frozen? a = false) : (callFunc 181 #[.agg #[hd 196, .pointer (some a), .int .u64 406], .agg #[hd 196, .pointer (some b), .int .u64 150]]).run Tryz.prog w = .ok (.value (.tuple #[])) (w.setCell a (.pointer x)) := by
  rw [run_callFunc_extern Tryz.func181 (by kernel_rfl) (by kernel_rfl) (by kernel_rfl) (e := Extern.ReflectliteValue.set) (by kernel_rfl)]
  have e : (Sem.run Tryz.prog (Extern.ReflectliteValue.set #[.agg #[hd 196, .pointer (some a), .int .u64 406], .agg #[hd 196, .pointer (some b), .int .u64 150]]) w) = Sem.run Tryz.prog (do storeVar 196 a (← loadVar 196 b); pure (.tuple #[])) w := by kernel_rfl
  rw [e]
  have hag := Tryz.isAgg196
  have hsz := Tryz.sizeOf196
  have hst := run_store Tryz.prog w a (.pointer x) .plain rfl
  simp [loadVar, hag, hb, storeVar, hsz, Value.cells, storeCells, hst, ha, hz, add_zero_addr, Result.andThen]

set_option maxHeartbeats 1000000 in
theorem as_hit_Panicked (n : Nat) (e0 : Value) (w : World) (tgt : Value) (a b : Nat) (x : Option Addr) (old : Value) (hb : Blk w b #[.pointer (some ⟨a, 0, none⟩)] 198) (ha : Blk w a #[old] 196)
    (hc : Chain (w.alloc (.cells #[hd 198, .pointer (some ⟨b, 0, none⟩), .int .u64 150] 233)) 196 n e0 (some (.pointer x))) :
    Calls Tryz.prog 127 #[e0, tgt, .agg #[hd 198, .pointer (some ⟨b, 0, none⟩), .int .u64 150], rt 196] w fun e w' => e = .returned (.bool true) ∧ ((w.alloc (.cells #[hd 198, .pointer (some ⟨b, 0, none⟩), .int .u64 150] 233)).alloc (.cells #[(.pointer x)] 196)).setCell ⟨a, 0, none⟩ (.pointer x) = w' := by
  have e1 := elem_Panicked (w := w.alloc (.cells #[hd 198, .pointer (some ⟨b, 0, none⟩), .int .u64 150] 233)) ((hb.alloc _).cellAt 0 rfl)
  have e2 := valueOf_Panicked x
  have e3 := set_Panicked (a := ⟨a, 0, none⟩) (b := ⟨w.heap.size + 1, 0, none⟩) (w := (w.alloc (.cells #[hd 198, .pointer (some ⟨b, 0, none⟩), .int .u64 150] 233)).alloc (.cells #[(.pointer x)] 196)) (x := x) (old := old) (by simp) (((ha.alloc _).alloc _).cellAt 0 rfl) (((ha.alloc _).alloc _).free 0)
  clear hb ha
  go_enter Tryz.func127, Tryz.ntmps127
  go_wp2_with fail
  go_loopg [0] n (fun k p wr => Chain wr 196 k p (some (.pointer x)) ∧ wr = w.alloc (.cells #[hd 198, .pointer (some ⟨b, 0, none⟩), .int .u64 150] 233))
  case atStart => exact ⟨hc, rfl⟩
  case round =>
  obtain ⟨hch, rfl⟩ := hrel
  clear hc
  cases hch with
  | hit h1 h2 =>
    have k1 := h1.ty; unfold IsT at h2
    clear h1
    go_wp2_with fail
    go_ret
    exact ⟨rfl, rfl⟩
  | @more m _ _ _ _ _ h1 h2 h3 h4 =>
    have k1 := h1.ty; have k2 := h1.asI; have k3 := h3.is; unfold NotT at h2
    obtain ⟨f, k4, k5, k6⟩ := h3.call
    clear h1 h3 e1 e2 e3
    go_wp2_with fail
    refine k6.mono ?_; rintro e w' ⟨rfl, rfl⟩
    clear k6
    go_wp2_with fail
    go_roundg m
    case measure => omega
    case rel => exact ⟨h4, rfl⟩



end Go.Proofs.YtgljjgmfhememaaGreatDoor
