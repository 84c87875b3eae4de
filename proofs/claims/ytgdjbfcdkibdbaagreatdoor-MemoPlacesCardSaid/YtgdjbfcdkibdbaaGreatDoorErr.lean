/- The errors of package fault in memory, as links of chains: their types' own Unwrap, walked; and what fault.Class makes of them. Conditions: none. -/
import Derived.Test.YtgdjbfcdkibdbaaGreatDoorAsD
namespace Go.Proofs.YtgdjbfcdkibdbaaGreatDoor
open Go Go.RowKit
set_option maxRecDepth 100000
theorem lk_Errno (v : Value) : Lk 35 v := ⟨fun _ => by kernel_rfl, fun w => run_typeAssert_lacksB Tryz.underlying283 (by kernel_rfl) (by kernel_rfl) v _ w⟩
theorem lk_Failed (v : Value) : Lk 141 v := ⟨fun _ => by kernel_rfl, fun w => run_typeAssert_lacksB Tryz.underlying283 (by kernel_rfl) (by kernel_rfl) v _ w⟩
theorem lk_Cancelled (v : Value) : Lk 256 v := ⟨fun _ => by kernel_rfl, fun w => run_typeAssert_lacksB Tryz.underlying283 (by kernel_rfl) (by kernel_rfl) v _ w⟩
theorem lk_Late (v : Value) : Lk 164 v := ⟨fun _ => by kernel_rfl, fun w => run_typeAssert_lacksB Tryz.underlying283 (by kernel_rfl) (by kernel_rfl) v _ w⟩
theorem lk_Panicked (v : Value) : Lk 200 v := ⟨fun _ => by kernel_rfl, fun w => run_typeAssert_lacksB Tryz.underlying283 (by kernel_rfl) (by kernel_rfl) v _ w⟩
theorem lk_At (v : Value) : Lk 237 v := ⟨fun _ => by kernel_rfl, fun w => run_typeAssert_lacksB Tryz.underlying283 (by kernel_rfl) (by kernel_rfl) v _ w⟩
theorem lk_Str (v : Value) : Lk 320 v := ⟨fun _ => by kernel_rfl, fun w => run_typeAssert_lacksB Tryz.underlying283 (by kernel_rfl) (by kernel_rfl) v _ w⟩
theorem bare_Errno (v : Value) : Bare 35 v := ⟨fun w => run_typeAssert_lacksB Tryz.underlying285 (by kernel_rfl) (by kernel_rfl) v _ w, fun w => run_typeAssert_lacksB Tryz.underlying287 (by kernel_rfl) (by kernel_rfl) v _ w⟩
theorem bare_Str (v : Value) : Bare 320 v := ⟨fun w => run_typeAssert_lacksB Tryz.underlying285 (by kernel_rfl) (by kernel_rfl) v _ w, fun w => run_typeAssert_lacksB Tryz.underlying287 (by kernel_rfl) (by kernel_rfl) v _ w⟩
theorem isT_Errno : IsT 35 35 := fun _ => by kernel_rfl
theorem notT_Failed_Errno : NotT 141 35 := fun _ => by kernel_rfl
theorem notT_Cancelled_Errno : NotT 256 35 := fun _ => by kernel_rfl
theorem notT_Late_Errno : NotT 164 35 := fun _ => by kernel_rfl
theorem notT_Panicked_Errno : NotT 200 35 := fun _ => by kernel_rfl
theorem notT_At_Errno : NotT 237 35 := fun _ => by kernel_rfl
theorem notT_Str_Errno : NotT 320 35 := fun _ => by kernel_rfl
theorem unwrap_Failed (b : Nat) (w : World) : Calls Tryz.prog 247 #[.pointer (some ⟨b, 0, none⟩)] w fun e w' => e = .returned (.iface 35 (.int .i64 23)) ∧ w = w' := by
  go_enter Tryz.func247, Tryz.ntmps247
  go_wp2
  go_ret
  exact ⟨rfl, rfl⟩
theorem un_Failed (b : Nat) (w : World) : Un w 141 (.pointer (some ⟨b, 0, none⟩)) (.iface 35 (.int .i64 23)) :=
  ⟨fun w => run_typeAssert_hasB Tryz.underlying285 (by kernel_rfl) _ _ w, 247, fun _ => by kernel_rfl, fun _ => Go.MuLone.run_callFunc_enter Tryz.func247 (by kernel_rfl) rfl _ _, unwrap_Failed b w⟩
theorem unwrap_Cancelled (b : Nat) (w : World) : Calls Tryz.prog 254 #[.pointer (some ⟨b, 0, none⟩)] w fun e w' => e = .returned (.iface 35 (.int .i64 20)) ∧ w = w' := by
  go_enter Tryz.func254, Tryz.ntmps254
  go_wp2
  go_ret
  exact ⟨rfl, rfl⟩
theorem un_Cancelled (b : Nat) (w : World) : Un w 256 (.pointer (some ⟨b, 0, none⟩)) (.iface 35 (.int .i64 20)) :=
  ⟨fun w => run_typeAssert_hasB Tryz.underlying285 (by kernel_rfl) _ _ w, 254, fun _ => by kernel_rfl, fun _ => Go.MuLone.run_callFunc_enter Tryz.func254 (by kernel_rfl) rfl _ _, unwrap_Cancelled b w⟩
theorem unwrap_Late (b : Nat) (w : World) : Calls Tryz.prog 248 #[.pointer (some ⟨b, 0, none⟩)] w fun e w' => e = .returned (.iface 35 (.int .i64 21)) ∧ w = w' := by
  go_enter Tryz.func248, Tryz.ntmps248
  go_wp2
  go_ret
  exact ⟨rfl, rfl⟩
theorem un_Late (b : Nat) (w : World) : Un w 164 (.pointer (some ⟨b, 0, none⟩)) (.iface 35 (.int .i64 21)) :=
  ⟨fun w => run_typeAssert_hasB Tryz.underlying285 (by kernel_rfl) _ _ w, 248, fun _ => by kernel_rfl, fun _ => Go.MuLone.run_callFunc_enter Tryz.func248 (by kernel_rfl) rfl _ _, unwrap_Late b w⟩
theorem unwrap_Panicked (b : Nat) (w : World) : Calls Tryz.prog 249 #[.pointer (some ⟨b, 0, none⟩)] w fun e w' => e = .returned (.iface 35 (.int .i64 22)) ∧ w = w' := by
  go_enter Tryz.func249, Tryz.ntmps249
  go_wp2
  go_ret
  exact ⟨rfl, rfl⟩
theorem un_Panicked (b : Nat) (w : World) : Un w 200 (.pointer (some ⟨b, 0, none⟩)) (.iface 35 (.int .i64 22)) :=
  ⟨fun w => run_typeAssert_hasB Tryz.underlying285 (by kernel_rfl) _ _ w, 249, fun _ => by kernel_rfl, fun _ => Go.MuLone.run_callFunc_enter Tryz.func249 (by kernel_rfl) rfl _ _, unwrap_Panicked b w⟩
theorem unwrap_At (b : Nat) (n u : Value) (w : World) (hb : Blk w b #[n, u] 239) : Calls Tryz.prog 253 #[.pointer (some ⟨b, 0, none⟩)] w fun e w' => e = .returned u ∧ w = w' := by
  have h1 : w.cell? ⟨b, 1, none⟩ = some u := hb.cellAt 1 rfl
  clear hb
  go_enter Tryz.func253, Tryz.ntmps253
  go_wp2
  go_ret
  exact ⟨rfl, rfl⟩
theorem un_At (b : Nat) (n u : Value) (w : World) (hb : Blk w b #[n, u] 239) : Un w 237 (.pointer (some ⟨b, 0, none⟩)) u :=
  ⟨fun w => run_typeAssert_hasB Tryz.underlying285 (by kernel_rfl) _ _ w, 253, fun _ => by kernel_rfl, fun _ => Go.MuLone.run_callFunc_enter Tryz.func253 (by kernel_rfl) rfl _ _, unwrap_At b n u w hb⟩
end Go.Proofs.YtgdjbfcdkibdbaaGreatDoor
