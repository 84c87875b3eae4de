/- The errors of package fault in memory, as links of chains: their types' own Unwrap, walked; and what fault.Class makes of them. Conditions: none. -/
import Derived.Test.YtgdjbfcdkibdbaaDoorAsD
namespace Go.Proofs.YtgdjbfcdkibdbaaDoor
open Go Go.RowKit
set_option maxRecDepth 100000
theorem lk_Errno (v : Value) : Lk 35 v := ⟨fun _ => by kernel_rfl, fun w => run_typeAssert_lacksB Tryd.underlying196 (by kernel_rfl) (by kernel_rfl) v _ w⟩
theorem lk_Failed (v : Value) : Lk 55 v := ⟨fun _ => by kernel_rfl, fun w => run_typeAssert_lacksB Tryd.underlying196 (by kernel_rfl) (by kernel_rfl) v _ w⟩
theorem lk_Cancelled (v : Value) : Lk 56 v := ⟨fun _ => by kernel_rfl, fun w => run_typeAssert_lacksB Tryd.underlying196 (by kernel_rfl) (by kernel_rfl) v _ w⟩
theorem lk_Late (v : Value) : Lk 57 v := ⟨fun _ => by kernel_rfl, fun w => run_typeAssert_lacksB Tryd.underlying196 (by kernel_rfl) (by kernel_rfl) v _ w⟩
theorem lk_Panicked (v : Value) : Lk 58 v := ⟨fun _ => by kernel_rfl, fun w => run_typeAssert_lacksB Tryd.underlying196 (by kernel_rfl) (by kernel_rfl) v _ w⟩
theorem lk_At (v : Value) : Lk 59 v := ⟨fun _ => by kernel_rfl, fun w => run_typeAssert_lacksB Tryd.underlying196 (by kernel_rfl) (by kernel_rfl) v _ w⟩
theorem lk_Str (v : Value) : Lk 240 v := ⟨fun _ => by kernel_rfl, fun w => run_typeAssert_lacksB Tryd.underlying196 (by kernel_rfl) (by kernel_rfl) v _ w⟩
theorem bare_Errno (v : Value) : Bare 35 v := ⟨fun w => run_typeAssert_lacksB Tryd.underlying190 (by kernel_rfl) (by kernel_rfl) v _ w, fun w => run_typeAssert_lacksB Tryd.underlying191 (by kernel_rfl) (by kernel_rfl) v _ w⟩
theorem bare_Str (v : Value) : Bare 240 v := ⟨fun w => run_typeAssert_lacksB Tryd.underlying190 (by kernel_rfl) (by kernel_rfl) v _ w, fun w => run_typeAssert_lacksB Tryd.underlying191 (by kernel_rfl) (by kernel_rfl) v _ w⟩
theorem isT_Errno : IsT 35 35 := fun _ => by kernel_rfl
theorem notT_Failed_Errno : NotT 55 35 := fun _ => by kernel_rfl
theorem notT_Cancelled_Errno : NotT 56 35 := fun _ => by kernel_rfl
theorem notT_Late_Errno : NotT 57 35 := fun _ => by kernel_rfl
theorem notT_Panicked_Errno : NotT 58 35 := fun _ => by kernel_rfl
theorem notT_At_Errno : NotT 59 35 := fun _ => by kernel_rfl
theorem notT_Str_Errno : NotT 240 35 := fun _ => by kernel_rfl
theorem unwrap_Failed (b : Nat) (w : World) : Calls Tryd.prog 33 #[.pointer (some ⟨b, 0, none⟩)] w fun e w' => e = .returned (.iface 35 (.int .i64 23)) ∧ w = w' := by
  go_enter Tryd.func33, Tryd.ntmps33
  go_wp2
  go_ret
  exact ⟨rfl, rfl⟩
theorem un_Failed (b : Nat) (w : World) : Un w 55 (.pointer (some ⟨b, 0, none⟩)) (.iface 35 (.int .i64 23)) :=
  ⟨fun w => run_typeAssert_hasB Tryd.underlying190 (by kernel_rfl) _ _ w, 33, fun _ => by kernel_rfl, fun _ => Go.MuLone.run_callFunc_enter Tryd.func33 (by kernel_rfl) rfl _ _, unwrap_Failed b w⟩
theorem unwrap_Cancelled (b : Nat) (w : World) : Calls Tryd.prog 34 #[.pointer (some ⟨b, 0, none⟩)] w fun e w' => e = .returned (.iface 35 (.int .i64 20)) ∧ w = w' := by
  go_enter Tryd.func34, Tryd.ntmps34
  go_wp2
  go_ret
  exact ⟨rfl, rfl⟩
theorem un_Cancelled (b : Nat) (w : World) : Un w 56 (.pointer (some ⟨b, 0, none⟩)) (.iface 35 (.int .i64 20)) :=
  ⟨fun w => run_typeAssert_hasB Tryd.underlying190 (by kernel_rfl) _ _ w, 34, fun _ => by kernel_rfl, fun _ => Go.MuLone.run_callFunc_enter Tryd.func34 (by kernel_rfl) rfl _ _, unwrap_Cancelled b w⟩
theorem unwrap_Late (b : Nat) (w : World) : Calls Tryd.prog 35 #[.pointer (some ⟨b, 0, none⟩)] w fun e w' => e = .returned (.iface 35 (.int .i64 21)) ∧ w = w' := by
  go_enter Tryd.func35, Tryd.ntmps35
  go_wp2
  go_ret
  exact ⟨rfl, rfl⟩
theorem un_Late (b : Nat) (w : World) : Un w 57 (.pointer (some ⟨b, 0, none⟩)) (.iface 35 (.int .i64 21)) :=
  ⟨fun w => run_typeAssert_hasB Tryd.underlying190 (by kernel_rfl) _ _ w, 35, fun _ => by kernel_rfl, fun _ => Go.MuLone.run_callFunc_enter Tryd.func35 (by kernel_rfl) rfl _ _, unwrap_Late b w⟩
theorem unwrap_Panicked (b : Nat) (w : World) : Calls Tryd.prog 36 #[.pointer (some ⟨b, 0, none⟩)] w fun e w' => e = .returned (.iface 35 (.int .i64 22)) ∧ w = w' := by
  go_enter Tryd.func36, Tryd.ntmps36
  go_wp2
  go_ret
  exact ⟨rfl, rfl⟩
theorem un_Panicked (b : Nat) (w : World) : Un w 58 (.pointer (some ⟨b, 0, none⟩)) (.iface 35 (.int .i64 22)) :=
  ⟨fun w => run_typeAssert_hasB Tryd.underlying190 (by kernel_rfl) _ _ w, 36, fun _ => by kernel_rfl, fun _ => Go.MuLone.run_callFunc_enter Tryd.func36 (by kernel_rfl) rfl _ _, unwrap_Panicked b w⟩
theorem unwrap_At (b : Nat) (n u : Value) (w : World) (hb : Blk w b #[n, u] 120) : Calls Tryd.prog 37 #[.pointer (some ⟨b, 0, none⟩)] w fun e w' => e = .returned u ∧ w = w' := by
  have h1 : w.cell? ⟨b, 1, none⟩ = some u := hb.cellAt 1 rfl
  clear hb
  go_enter Tryd.func37, Tryd.ntmps37
  go_wp2
  go_ret
  exact ⟨rfl, rfl⟩
theorem un_At (b : Nat) (n u : Value) (w : World) (hb : Blk w b #[n, u] 120) : Un w 59 (.pointer (some ⟨b, 0, none⟩)) u :=
  ⟨fun w => run_typeAssert_hasB Tryd.underlying190 (by kernel_rfl) _ _ w, 37, fun _ => by kernel_rfl, fun _ => Go.MuLone.run_callFunc_enter Tryd.func37 (by kernel_rfl) rfl _ _, unwrap_At b n u w hb⟩
end Go.Proofs.YtgdjbfcdkibdbaaDoor
