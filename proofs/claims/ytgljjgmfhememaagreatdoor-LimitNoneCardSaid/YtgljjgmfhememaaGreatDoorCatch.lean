/- fault.Catch over a function that is known by its contract: it answers a value, an error, or panics (with no stop of the gate): what Catch answers, what it leaves of memory. fault.Of, gate.Is. Conditions: none. -/
import Derived.Test.YtgljjgmfhememaaGreatDoorClass
import Derived.Recover
import Derived.Lib.Hide
import Derived.RegionTactic
namespace Go.Proofs.YtgljjgmfhememaaGreatDoor
open Go Go.RowKit
set_option maxRecDepth 100000
set_option maxHeartbeats 400000
/-- A value of another type is no stop. -/
theorem gateIs (u : TypeId) (x : Value) (hu : u ≠ 264) (w : World) : Calls Tryz.prog 96 #[.iface u x] w fun e w' => e = .returned (.bool false) ∧ w = w' := by
  have he := fun w => run_eql_iface_types (P := Tryz.prog) u 264 x (.agg #[]) Tryz.underlying20 hu w
  go_enter Tryz.func96, Tryz.ntmps96
  go_wp2_with fail
  go_ret
  exact ⟨rfl, rfl⟩
theorem fault_of (u : TypeId) (x : Value) (w : World) : Calls Tryz.prog 97 #[.iface u x] w fun e w' => e = .returned (.iface 196 (.pointer (some ⟨w.heap.size, 0, none⟩))) ∧ w.alloc (.cells #[.iface u x] 200) = w' := by
  go_enter Tryz.func97, Tryz.ntmps97
  go_wp2_with fail
  go_ret
  exact ⟨rfl, rfl⟩
theorem fault_of_nil (w : World) : Calls Tryz.prog 97 #[.nilIface] w fun e w' => e = .returned .nilIface ∧ w = w' := by
  go_enter Tryz.func97, Tryz.ntmps97
  go_wp2_with fail
  go_ret
  exact ⟨rfl, rfl⟩

theorem caught_idle (p q : Addr) (w : World) : CallsD Tryz.prog 95 #[.pointer (some p), .pointer (some q)] .returning w fun e u' w' => e = .returned (.tuple #[]) ∧ u' = .returning ∧ w = w' := by
  refine callsD_of_wpS Tryz.func95 rfl fun c₀ cs hu => ?_
  apply wpS_seq
  apply wpS_region
  simp [wpOpsS, go_sem, recoverD, hu, Tryz.ntmps95, Exit.thenS]
  refine wpS_of_wp ?_
  rw [show (#[.pointer (some p), .pointer (some q)] ++ ((Array.replicate 9 undef).setIfInBounds 1 Value.nilIface).setIfInBounds 0 Value.nilIface : Array Value) = #[.pointer (some p), .pointer (some q), .nilIface, .nilIface, undef, undef, undef, undef, undef, undef, undef] from rfl]
  go_wp2_with fail
  cases c₀
  simp_all [bodyPostS, results, Tryz.results95]

theorem caught (p q : Nat) (x0 y0 : Value) (tp tq : TypeId) (u : TypeId) (x : Value) (hns : u ≠ 264) (older : List PanicEntry) (w : World) (hp : Blk w p #[x0] tp) (hq : Blk w q #[y0] tq) :
    CallsD Tryz.prog 95 #[.pointer (some ⟨p, 0, none⟩), .pointer (some ⟨q, 0, none⟩)] (.panicking ({ v := .iface u x, recovered := false } :: older)) w fun e u' w' => e = .returned (.tuple #[]) ∧ u' = .panicking ({ v := .iface u x, recovered := true } :: older) ∧
      ((w.alloc (.cells #[.iface u x] 200)).setCell ⟨p, 0, none⟩ (.int .i64 0)).setCell ⟨q, 0, none⟩ (.iface 196 (.pointer (some ⟨w.heap.size, 0, none⟩))) = w' := by
  have cp := (hp.alloc (.cells #[.iface u x] 200)).cellAt 0 (v := x0) rfl
  have zp := (hp.alloc (.cells #[.iface u x] 200)).free 0
  have zq := (hq.alloc (.cells #[.iface u x] 200)).free 0
  have cq : ∃ y1, ((w.alloc (.cells #[.iface u x] 200)).setCell ⟨p, 0, none⟩ (.int .i64 0)).cell? ⟨q, 0, none⟩ = some y1 := by
    by_cases e : p = q
    · subst e; exact ⟨_, ((hp.alloc _).set 0 _).cellAt 0 rfl⟩
    · exact ⟨_, ((hq.alloc _).set_other (a := ⟨p, 0, none⟩) e _).cellAt 0 rfl⟩
  obtain ⟨y1, cq⟩ := cq
  refine callsD_of_wpS Tryz.func95 rfl fun c₀ cs hu => ?_
  apply wpS_seq
  apply wpS_region
  simp [wpOpsS, go_sem, recoverD, hu, Tryz.ntmps95, Exit.thenS]
  refine wpS_of_wp ?_
  rw [show (#[.pointer (some ⟨p, 0, none⟩), .pointer (some ⟨q, 0, none⟩)] ++ ((Array.replicate 9 undef).setIfInBounds 1 (Value.iface u x)).setIfInBounds 0 (Value.iface u x) : Array Value) = #[.pointer (some ⟨p, 0, none⟩), .pointer (some ⟨q, 0, none⟩), .iface u x, .iface u x, undef, undef, undef, undef, undef, undef, undef] from rfl]
  clear hu hp hq
  go_wp2_with (first | (go_at_call 96; refine (gateIs _ _ hns _).mono ?_; rintro e w' ⟨rfl, rfl⟩) | (go_at_call 97; refine (fault_of _ _ _).mono ?_; rintro e w' ⟨rfl, rfl⟩))
  simp [bodyPostS, results, Tryz.results95]
/-- The world in which fault.Catch calls its function. -/
abbrev catchW (w : World) : World := (w.alloc (.cells #[.int .i64 0] 2)).alloc (.cells #[.nilIface] 29)
theorem func_not_nil (F : Nat) (cap : Array Value) (w : World) : (binOp .eql 86 (.func (.func F) #[] cap) .nilFunc).run Tryz.prog w = .ok (.bool false) w := by kernel_rfl
theorem makeFunc_run (fn : Fn) (first cap : Array Value) (w : World) : (Instr.makeFunc fn first cap).run Tryz.prog w = .ok (.func fn first cap) w := rfl
theorem catch_value (F : Nat) (cap : Array Value) (w : World) (v : Int) (R : World → Prop)
    (hE : ∀ w, (callFunc F cap).run Tryz.prog w = .ok (.enter F cap) w)
    (hf : Calls Tryz.prog F cap (catchW w) fun e w3 => e = .returned (.tuple #[.int .i64 v, .nilIface]) ∧ Blk w3 w.heap.size #[.int .i64 0] 2 ∧ Blk w3 (w.heap.size + 1) #[.nilIface] 29 ∧ R w3) :
    Calls Tryz.prog 36 #[.func (.func F) #[] cap] w fun e w' => e = .returned (.tuple #[.int .i64 v, .nilIface]) ∧ ∃ w3, R w3 ∧ Chg (fun k => k = w.heap.size ∨ k = w.heap.size + 1) w3 w' := by
  have hmf := makeFunc_run
  have hnn := func_not_nil F cap
  go_enter_defers Tryz.func36, Tryz.ntmps36
  go_wp2_with fail
  refine hf.mono ?_
  rintro e w3 ⟨rfl, hp, hq, hR⟩
  have HR := Lib.hid hR
  clear hR hf hE
  have c1 := hp.cellAt 0 (v := .int .i64 0) rfl
  have c2 := hq.cellAt 0 (v := .nilIface) rfl
  have z1 := hp.free 0
  have z2 := hq.free 0
  go_wp2_with fail
  refine leaves_cons (f := 95) (args := #[.pointer (some ⟨w.heap.size, 0, none⟩), .pointer (some ⟨w.heap.size + 1, 0, none⟩)]) (by simp) (by simp [go_sem]) ?_
  refine (caught_idle _ _ _).mono ?_
  rintro e u' w'' ⟨rfl, rfl, rfl⟩
  have f1 := (((((hp.set 0 (.int .i64 v)).set_other (a := ⟨w.heap.size + 1, 0, none⟩) (by simp) .nilIface).set 0 (.int .i64 v)).set_other (a := ⟨w.heap.size + 1, 0, none⟩) (by simp) .nilIface).cellAt 0 (v := .int .i64 v) rfl)
  have f2 := ((((hq.set_other (a := ⟨w.heap.size, 0, none⟩) (by simp) (.int .i64 v)).set 0 .nilIface).set_other (a := ⟨w.heap.size, 0, none⟩) (by simp) (.int .i64 v)).set 0 .nilIface).cellAt 0 (v := .nilIface) rfl
  refine ⟨.tuple #[.int .i64 v, .nilIface], by simp [results, Tryz.results36, go_sem, f1, f2], rfl, w3, HR.out, ?_⟩
  exact ((((Chg.refl _ _).setCell (.inl (.inl rfl)) _).setCell (.inl (.inr rfl)) _).setCell (.inl (.inl rfl)) _).setCell (.inl (.inr rfl)) _
theorem catch_error (F : Nat) (cap : Array Value) (w : World) (v : Int) (E : TypeId) (x : Value) (R : World → Prop)
    (hE : ∀ w, (callFunc F cap).run Tryz.prog w = .ok (.enter F cap) w)
    (hf : Calls Tryz.prog F cap (catchW w) fun e w3 => e = .returned (.tuple #[.int .i64 v, .iface E x]) ∧ Blk w3 w.heap.size #[.int .i64 0] 2 ∧ Blk w3 (w.heap.size + 1) #[.nilIface] 29 ∧ R w3) :
    Calls Tryz.prog 36 #[.func (.func F) #[] cap] w fun e w' => e = .returned (.tuple #[.int .i64 0, .iface E x]) ∧ ∃ w3, R w3 ∧ Chg (fun k => k = w.heap.size ∨ k = w.heap.size + 1) w3 w' := by
  have hmf := makeFunc_run
  have hnn := func_not_nil F cap
  go_enter_defers Tryz.func36, Tryz.ntmps36
  go_wp2_with fail
  refine hf.mono ?_
  rintro e w3 ⟨rfl, hp, hq, hR⟩
  have HR := Lib.hid hR
  clear hR hf hE
  have c1 := hp.cellAt 0 (v := .int .i64 0) rfl
  have c2 := hq.cellAt 0 (v := .nilIface) rfl
  have z1 := hp.free 0
  have z2 := hq.free 0
  go_wp2_with fail
  have f0 := ((hp.set 0 (.int .i64 v)).set_other (a := ⟨w.heap.size + 1, 0, none⟩) (by simp) (.iface E x)).cellAt 0 (v := .int .i64 v) rfl
  go_region
  go_wp2_with fail
  refine leaves_cons (f := 95) (args := #[.pointer (some ⟨w.heap.size, 0, none⟩), .pointer (some ⟨w.heap.size + 1, 0, none⟩)]) (by simp) (by simp [go_sem]) ?_
  refine (caught_idle _ _ _).mono ?_
  rintro e u' w'' ⟨rfl, rfl, rfl⟩
  have f1 := (((((hp.set 0 (.int .i64 v)).set_other (a := ⟨w.heap.size + 1, 0, none⟩) (by simp) (.iface E x)).set 0 (.int .i64 0)).set_other (a := ⟨w.heap.size + 1, 0, none⟩) (by simp) (.iface E x)).cellAt 0 (v := .int .i64 0) rfl)
  have f2 := ((((hq.set_other (a := ⟨w.heap.size, 0, none⟩) (by simp) (.int .i64 v)).set 0 (.iface E x)).set_other (a := ⟨w.heap.size, 0, none⟩) (by simp) (.int .i64 0)).set 0 (.iface E x)).cellAt 0 (v := .iface E x) rfl
  refine ⟨.tuple #[.int .i64 0, .iface E x], ?_, rfl, w3, HR.out, ?_⟩
  · simp [results, Tryz.results36, go_sem, f1, f2]
  · exact (((((Chg.refl _ _).setCell (.inl (.inl rfl)) _).setCell (.inl (.inr rfl)) _).setCell (.inl (.inl rfl)) _).setCell (.inl (.inr rfl)) _).drew
theorem catch_panic (F : Nat) (cap : Array Value) (w : World) (u : TypeId) (x : Value) (hns : u ≠ 264) (R : World → Prop)
    (hE : ∀ w, (callFunc F cap).run Tryz.prog w = .ok (.enter F cap) w)
    (hf : Calls Tryz.prog F cap (catchW w) fun e w3 => e = .panicked [{ v := .iface u x, recovered := false }] ∧ Blk w3 w.heap.size #[.int .i64 0] 2 ∧ Blk w3 (w.heap.size + 1) #[.nilIface] 29 ∧ R w3) :
    Calls Tryz.prog 36 #[.func (.func F) #[] cap] w fun e w' => ∃ w3, R w3 ∧ e = .returned (.tuple #[.int .i64 0, .iface 196 (.pointer (some ⟨w3.heap.size, 0, none⟩))]) ∧ Chg (fun k => k = w.heap.size ∨ k = w.heap.size + 1) w3 w' ∧ Blk w' w3.heap.size #[.iface u x] 200 := by
  have hmf := makeFunc_run
  have hnn := func_not_nil F cap
  go_enter_defers Tryz.func36, Tryz.ntmps36
  go_wp2_with fail
  refine hf.mono ?_
  rintro e w3 ⟨rfl, hp, hq, hR⟩
  have HR := Lib.hid hR
  clear hR hf hE
  go_wp2_with fail
  refine leaves_cons (f := 95) (args := #[.pointer (some ⟨w.heap.size, 0, none⟩), .pointer (some ⟨w.heap.size + 1, 0, none⟩)]) (by simp) (by simp [go_sem]) ?_
  refine (caught w.heap.size (w.heap.size + 1) _ _ _ _ u x hns [] _ hp hq).mono ?_
  rintro e u' w'' ⟨rfl, rfl, rfl⟩
  have g1 := hp.lt
  have g2 := hq.lt
  have f1 := (((hp.alloc (.cells #[.iface u x] 200)).set 0 (.int .i64 0)).set_other (a := ⟨w.heap.size + 1, 0, none⟩) (by simp) (.iface 196 (.pointer (some ⟨w3.heap.size, 0, none⟩)))).cellAt 0 (v := .int .i64 0) rfl
  have f2 := (((hq.alloc (.cells #[.iface u x] 200)).set_other (a := ⟨w.heap.size, 0, none⟩) (by simp) (.int .i64 0)).set 0 (.iface 196 (.pointer (some ⟨w3.heap.size, 0, none⟩)))).cellAt 0 (v := .iface 196 (.pointer (some ⟨w3.heap.size, 0, none⟩))) rfl
  simp only [settle]
  refine ⟨.tuple #[.int .i64 0, .iface 196 (.pointer (some ⟨w3.heap.size, 0, none⟩))], by simp [results, Tryz.results36, go_sem, f1, f2], w3, HR.out, rfl, ?_, ?_⟩
  · exact (((Chg.refl _ _).alloc _).setCell (.inl (.inl rfl)) _).setCell (.inl (.inr rfl)) _
  · exact ((Blk.new _ _ _).set_other (a := ⟨w.heap.size, 0, none⟩) (by simp; omega) _).set_other (a := ⟨w.heap.size + 1, 0, none⟩) (by simp; omega) _
end Go.Proofs.YtgljjgmfhememaaGreatDoor
