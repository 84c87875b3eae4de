/- The errors of package fault in memory, as links of chains: their types' own Unwrap, walked; and what fault.Class makes of them. Conditions: none. -/
import Derived.Test.YtgljjgmfhememaaGreatDoorAsD
namespace Go.Proofs.YtgljjgmfhememaaGreatDoor
open Go Go.RowKit
set_option maxRecDepth 100000
theorem lk_Errno (v : Value) : Lk 33 v := ⟨fun _ => by kernel_rfl, fun w => run_typeAssert_lacksB Tryz.underlying296 (by kernel_rfl) (by kernel_rfl) v _ w⟩
theorem lk_Failed (v : Value) : Lk 138 v := ⟨fun _ => by kernel_rfl, fun w => run_typeAssert_lacksB Tryz.underlying296 (by kernel_rfl) (by kernel_rfl) v _ w⟩
theorem lk_Cancelled (v : Value) : Lk 266 v := ⟨fun _ => by kernel_rfl, fun w => run_typeAssert_lacksB Tryz.underlying296 (by kernel_rfl) (by kernel_rfl) v _ w⟩
theorem lk_Late (v : Value) : Lk 154 v := ⟨fun _ => by kernel_rfl, fun w => run_typeAssert_lacksB Tryz.underlying296 (by kernel_rfl) (by kernel_rfl) v _ w⟩
theorem lk_Panicked (v : Value) : Lk 196 v := ⟨fun _ => by kernel_rfl, fun w => run_typeAssert_lacksB Tryz.underlying296 (by kernel_rfl) (by kernel_rfl) v _ w⟩
theorem lk_At (v : Value) : Lk 227 v := ⟨fun _ => by kernel_rfl, fun w => run_typeAssert_lacksB Tryz.underlying296 (by kernel_rfl) (by kernel_rfl) v _ w⟩
theorem lk_Str (v : Value) : Lk 357 v := ⟨fun _ => by kernel_rfl, fun w => run_typeAssert_lacksB Tryz.underlying296 (by kernel_rfl) (by kernel_rfl) v _ w⟩
theorem bare_Errno (v : Value) : Bare 33 v := ⟨fun w => run_typeAssert_lacksB Tryz.underlying298 (by kernel_rfl) (by kernel_rfl) v _ w, fun w => run_typeAssert_lacksB Tryz.underlying300 (by kernel_rfl) (by kernel_rfl) v _ w⟩
theorem bare_Str (v : Value) : Bare 357 v := ⟨fun w => run_typeAssert_lacksB Tryz.underlying298 (by kernel_rfl) (by kernel_rfl) v _ w, fun w => run_typeAssert_lacksB Tryz.underlying300 (by kernel_rfl) (by kernel_rfl) v _ w⟩
theorem isT_Errno : IsT 33 33 := fun _ => by kernel_rfl
theorem notT_Failed_Errno : NotT 138 33 := fun _ => by kernel_rfl
theorem notT_Cancelled_Errno : NotT 266 33 := fun _ => by kernel_rfl
theorem notT_Late_Errno : NotT 154 33 := fun _ => by kernel_rfl
theorem notT_Panicked_Errno : NotT 196 33 := fun _ => by kernel_rfl
theorem notT_At_Errno : NotT 227 33 := fun _ => by kernel_rfl
theorem notT_Str_Errno : NotT 357 33 := fun _ => by kernel_rfl
theorem unwrap_Failed (b : Nat) (w : World) : Calls Tryz.prog 259 #[.pointer (some ⟨b, 0, none⟩)] w fun e w' => e = .returned (.iface 33 (.int .i64 23)) ∧ w = w' := by
  go_enter Tryz.func259, Tryz.ntmps259
  go_wp2
  go_ret
  exact ⟨rfl, rfl⟩
theorem un_Failed (b : Nat) (w : World) : Un w 138 (.pointer (some ⟨b, 0, none⟩)) (.iface 33 (.int .i64 23)) :=
  ⟨fun w => run_typeAssert_hasB Tryz.underlying298 (by kernel_rfl) _ _ w, 259, fun _ => by kernel_rfl, fun _ => Go.MuLone.run_callFunc_enter Tryz.func259 (by kernel_rfl) rfl _ _, unwrap_Failed b w⟩
theorem unwrap_Cancelled (b : Nat) (w : World) : Calls Tryz.prog 266 #[.pointer (some ⟨b, 0, none⟩)] w fun e w' => e = .returned (.iface 33 (.int .i64 20)) ∧ w = w' := by
  go_enter Tryz.func266, Tryz.ntmps266
  go_wp2
  go_ret
  exact ⟨rfl, rfl⟩
theorem un_Cancelled (b : Nat) (w : World) : Un w 266 (.pointer (some ⟨b, 0, none⟩)) (.iface 33 (.int .i64 20)) :=
  ⟨fun w => run_typeAssert_hasB Tryz.underlying298 (by kernel_rfl) _ _ w, 266, fun _ => by kernel_rfl, fun _ => Go.MuLone.run_callFunc_enter Tryz.func266 (by kernel_rfl) rfl _ _, unwrap_Cancelled b w⟩
theorem unwrap_Late (b : Nat) (w : World) : Calls Tryz.prog 260 #[.pointer (some ⟨b, 0, none⟩)] w fun e w' => e = .returned (.iface 33 (.int .i64 21)) ∧ w = w' := by
  go_enter Tryz.func260, Tryz.ntmps260
  go_wp2
  go_ret
  exact ⟨rfl, rfl⟩
theorem un_Late (b : Nat) (w : World) : Un w 154 (.pointer (some ⟨b, 0, none⟩)) (.iface 33 (.int .i64 21)) :=
  ⟨fun w => run_typeAssert_hasB Tryz.underlying298 (by kernel_rfl) _ _ w, 260, fun _ => by kernel_rfl, fun _ => Go.MuLone.run_callFunc_enter Tryz.func260 (by kernel_rfl) rfl _ _, unwrap_Late b w⟩
theorem unwrap_Panicked (b : Nat) (w : World) : Calls Tryz.prog 261 #[.pointer (some ⟨b, 0, none⟩)] w fun e w' => e = .returned (.iface 33 (.int .i64 22)) ∧ w = w' := by
  go_enter Tryz.func261, Tryz.ntmps261
  go_wp2
  go_ret
  exact ⟨rfl, rfl⟩
theorem un_Panicked (b : Nat) (w : World) : Un w 196 (.pointer (some ⟨b, 0, none⟩)) (.iface 33 (.int .i64 22)) :=
  ⟨fun w => run_typeAssert_hasB Tryz.underlying298 (by kernel_rfl) _ _ w, 261, fun _ => by kernel_rfl, fun _ => Go.MuLone.run_callFunc_enter Tryz.func261 (by kernel_rfl) rfl _ _, unwrap_Panicked b w⟩
theorem unwrap_At (b : Nat) (n u : Value) (w : World) (hb : Blk w b #[n, u] 229) : Calls Tryz.prog 262 #[.pointer (some ⟨b, 0, none⟩)] w fun e w' => e = .returned u ∧ w = w' := by
  have h1 : w.cell? ⟨b, 1, none⟩ = some u := hb.cellAt 1 rfl
  clear hb
  go_enter Tryz.func262, Tryz.ntmps262
  go_wp2
  go_ret
  exact ⟨rfl, rfl⟩
theorem un_At (b : Nat) (n u : Value) (w : World) (hb : Blk w b #[n, u] 229) : Un w 227 (.pointer (some ⟨b, 0, none⟩)) u :=
  ⟨fun w => run_typeAssert_hasB Tryz.underlying298 (by kernel_rfl) _ _ w, 262, fun _ => by kernel_rfl, fun _ => Go.MuLone.run_callFunc_enter Tryz.func262 (by kernel_rfl) rfl _ _, unwrap_At b n u w hb⟩
end Go.Proofs.YtgljjgmfhememaaGreatDoor
