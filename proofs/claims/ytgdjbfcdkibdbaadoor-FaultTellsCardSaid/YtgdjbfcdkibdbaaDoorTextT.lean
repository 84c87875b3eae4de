/- Text at every error of this chapter. Conditions: internal/strconv.uint64pow10 and treadlelaw12.plain hold what the program lays. -/
import Derived.Test.YtgdjbfcdkibdbaaDoorTextA
import Derived.LaidEql
namespace Go.Proofs.YtgdjbfcdkibdbaaDoor
open Go Go.RowKit Go.Sort
set_option maxRecDepth 100000
set_option maxHeartbeats 1000000
/-- treadlelaw12.plain holds the plain error. -/
def PlainG (w : World) (a : Addr) : Prop := w.cell? ⟨0, 0, none⟩ = some (.iface 240 (.pointer (some a)))
theorem PlainG.same {w w' : World} {a : Addr} (h : PlainG w a) (hs : Same w w') : PlainG w' a := (hs.cell (p := ⟨0, 0, none⟩) (World.block_lt_of_cell? w ⟨0, 0, none⟩ h) (fun x => x)).trans h
def PlainIs (w : World) : Option Base → Prop
  | some (.plain a) => PlainG w a
  | _ => True
theorem ta_Failed_Failed (v : Value) : ∀ w, (Instr.typeAssert (.iface 55 v) 27 55 true).run Tryd.prog w = .ok (.tuple #[v, .bool true]) w := fun w => by kernel_rfl
theorem ta_Failed_Cancelled (v : Value) : ∀ w, (Instr.typeAssert (.iface 55 v) 27 56 true).run Tryd.prog w = .ok (.tuple #[.pointer none, .bool false]) w := fun w => by kernel_rfl
theorem ta_Failed_Late (v : Value) : ∀ w, (Instr.typeAssert (.iface 55 v) 27 57 true).run Tryd.prog w = .ok (.tuple #[.pointer none, .bool false]) w := fun w => by kernel_rfl
theorem ta_Failed_Panicked (v : Value) : ∀ w, (Instr.typeAssert (.iface 55 v) 27 58 true).run Tryd.prog w = .ok (.tuple #[.pointer none, .bool false]) w := fun w => by kernel_rfl
theorem ta_Failed_At (v : Value) : ∀ w, (Instr.typeAssert (.iface 55 v) 27 59 true).run Tryd.prog w = .ok (.tuple #[.pointer none, .bool false]) w := fun w => by kernel_rfl
theorem ta_Failed_Errno (v : Value) : ∀ w, (Instr.typeAssert (.iface 55 v) 27 35 true).run Tryd.prog w = .ok (.tuple #[.int .i64 0, .bool false]) w := fun w => by kernel_rfl
theorem ta_Cancelled_Failed (v : Value) : ∀ w, (Instr.typeAssert (.iface 56 v) 27 55 true).run Tryd.prog w = .ok (.tuple #[.pointer none, .bool false]) w := fun w => by kernel_rfl
theorem ta_Cancelled_Cancelled (v : Value) : ∀ w, (Instr.typeAssert (.iface 56 v) 27 56 true).run Tryd.prog w = .ok (.tuple #[v, .bool true]) w := fun w => by kernel_rfl
theorem ta_Cancelled_Late (v : Value) : ∀ w, (Instr.typeAssert (.iface 56 v) 27 57 true).run Tryd.prog w = .ok (.tuple #[.pointer none, .bool false]) w := fun w => by kernel_rfl
theorem ta_Cancelled_Panicked (v : Value) : ∀ w, (Instr.typeAssert (.iface 56 v) 27 58 true).run Tryd.prog w = .ok (.tuple #[.pointer none, .bool false]) w := fun w => by kernel_rfl
theorem ta_Cancelled_At (v : Value) : ∀ w, (Instr.typeAssert (.iface 56 v) 27 59 true).run Tryd.prog w = .ok (.tuple #[.pointer none, .bool false]) w := fun w => by kernel_rfl
theorem ta_Cancelled_Errno (v : Value) : ∀ w, (Instr.typeAssert (.iface 56 v) 27 35 true).run Tryd.prog w = .ok (.tuple #[.int .i64 0, .bool false]) w := fun w => by kernel_rfl
theorem ta_Late_Failed (v : Value) : ∀ w, (Instr.typeAssert (.iface 57 v) 27 55 true).run Tryd.prog w = .ok (.tuple #[.pointer none, .bool false]) w := fun w => by kernel_rfl
theorem ta_Late_Cancelled (v : Value) : ∀ w, (Instr.typeAssert (.iface 57 v) 27 56 true).run Tryd.prog w = .ok (.tuple #[.pointer none, .bool false]) w := fun w => by kernel_rfl
theorem ta_Late_Late (v : Value) : ∀ w, (Instr.typeAssert (.iface 57 v) 27 57 true).run Tryd.prog w = .ok (.tuple #[v, .bool true]) w := fun w => by kernel_rfl
theorem ta_Late_Panicked (v : Value) : ∀ w, (Instr.typeAssert (.iface 57 v) 27 58 true).run Tryd.prog w = .ok (.tuple #[.pointer none, .bool false]) w := fun w => by kernel_rfl
theorem ta_Late_At (v : Value) : ∀ w, (Instr.typeAssert (.iface 57 v) 27 59 true).run Tryd.prog w = .ok (.tuple #[.pointer none, .bool false]) w := fun w => by kernel_rfl
theorem ta_Late_Errno (v : Value) : ∀ w, (Instr.typeAssert (.iface 57 v) 27 35 true).run Tryd.prog w = .ok (.tuple #[.int .i64 0, .bool false]) w := fun w => by kernel_rfl
theorem ta_Panicked_Failed (v : Value) : ∀ w, (Instr.typeAssert (.iface 58 v) 27 55 true).run Tryd.prog w = .ok (.tuple #[.pointer none, .bool false]) w := fun w => by kernel_rfl
theorem ta_Panicked_Cancelled (v : Value) : ∀ w, (Instr.typeAssert (.iface 58 v) 27 56 true).run Tryd.prog w = .ok (.tuple #[.pointer none, .bool false]) w := fun w => by kernel_rfl
theorem ta_Panicked_Late (v : Value) : ∀ w, (Instr.typeAssert (.iface 58 v) 27 57 true).run Tryd.prog w = .ok (.tuple #[.pointer none, .bool false]) w := fun w => by kernel_rfl
theorem ta_Panicked_Panicked (v : Value) : ∀ w, (Instr.typeAssert (.iface 58 v) 27 58 true).run Tryd.prog w = .ok (.tuple #[v, .bool true]) w := fun w => by kernel_rfl
theorem ta_Panicked_At (v : Value) : ∀ w, (Instr.typeAssert (.iface 58 v) 27 59 true).run Tryd.prog w = .ok (.tuple #[.pointer none, .bool false]) w := fun w => by kernel_rfl
theorem ta_Panicked_Errno (v : Value) : ∀ w, (Instr.typeAssert (.iface 58 v) 27 35 true).run Tryd.prog w = .ok (.tuple #[.int .i64 0, .bool false]) w := fun w => by kernel_rfl
theorem ta_At_Failed (v : Value) : ∀ w, (Instr.typeAssert (.iface 59 v) 27 55 true).run Tryd.prog w = .ok (.tuple #[.pointer none, .bool false]) w := fun w => by kernel_rfl
theorem ta_At_Cancelled (v : Value) : ∀ w, (Instr.typeAssert (.iface 59 v) 27 56 true).run Tryd.prog w = .ok (.tuple #[.pointer none, .bool false]) w := fun w => by kernel_rfl
theorem ta_At_Late (v : Value) : ∀ w, (Instr.typeAssert (.iface 59 v) 27 57 true).run Tryd.prog w = .ok (.tuple #[.pointer none, .bool false]) w := fun w => by kernel_rfl
theorem ta_At_Panicked (v : Value) : ∀ w, (Instr.typeAssert (.iface 59 v) 27 58 true).run Tryd.prog w = .ok (.tuple #[.pointer none, .bool false]) w := fun w => by kernel_rfl
theorem ta_At_At (v : Value) : ∀ w, (Instr.typeAssert (.iface 59 v) 27 59 true).run Tryd.prog w = .ok (.tuple #[v, .bool true]) w := fun w => by kernel_rfl
theorem ta_At_Errno (v : Value) : ∀ w, (Instr.typeAssert (.iface 59 v) 27 35 true).run Tryd.prog w = .ok (.tuple #[.int .i64 0, .bool false]) w := fun w => by kernel_rfl
theorem ta_Errno_Failed (v : Value) : ∀ w, (Instr.typeAssert (.iface 35 v) 27 55 true).run Tryd.prog w = .ok (.tuple #[.pointer none, .bool false]) w := fun w => by kernel_rfl
theorem ta_Errno_Cancelled (v : Value) : ∀ w, (Instr.typeAssert (.iface 35 v) 27 56 true).run Tryd.prog w = .ok (.tuple #[.pointer none, .bool false]) w := fun w => by kernel_rfl
theorem ta_Errno_Late (v : Value) : ∀ w, (Instr.typeAssert (.iface 35 v) 27 57 true).run Tryd.prog w = .ok (.tuple #[.pointer none, .bool false]) w := fun w => by kernel_rfl
theorem ta_Errno_Panicked (v : Value) : ∀ w, (Instr.typeAssert (.iface 35 v) 27 58 true).run Tryd.prog w = .ok (.tuple #[.pointer none, .bool false]) w := fun w => by kernel_rfl
theorem ta_Errno_At (v : Value) : ∀ w, (Instr.typeAssert (.iface 35 v) 27 59 true).run Tryd.prog w = .ok (.tuple #[.pointer none, .bool false]) w := fun w => by kernel_rfl
theorem ta_Errno_Errno (v : Value) : ∀ w, (Instr.typeAssert (.iface 35 v) 27 35 true).run Tryd.prog w = .ok (.tuple #[v, .bool true]) w := fun w => by kernel_rfl
theorem ta_Plain_Failed (v : Value) : ∀ w, (Instr.typeAssert (.iface 240 v) 27 55 true).run Tryd.prog w = .ok (.tuple #[.pointer none, .bool false]) w := fun w => by kernel_rfl
theorem ta_Plain_Cancelled (v : Value) : ∀ w, (Instr.typeAssert (.iface 240 v) 27 56 true).run Tryd.prog w = .ok (.tuple #[.pointer none, .bool false]) w := fun w => by kernel_rfl
theorem ta_Plain_Late (v : Value) : ∀ w, (Instr.typeAssert (.iface 240 v) 27 57 true).run Tryd.prog w = .ok (.tuple #[.pointer none, .bool false]) w := fun w => by kernel_rfl
theorem ta_Plain_Panicked (v : Value) : ∀ w, (Instr.typeAssert (.iface 240 v) 27 58 true).run Tryd.prog w = .ok (.tuple #[.pointer none, .bool false]) w := fun w => by kernel_rfl
theorem ta_Plain_At (v : Value) : ∀ w, (Instr.typeAssert (.iface 240 v) 27 59 true).run Tryd.prog w = .ok (.tuple #[.pointer none, .bool false]) w := fun w => by kernel_rfl
theorem ta_Plain_Errno (v : Value) : ∀ w, (Instr.typeAssert (.iface 240 v) 27 35 true).run Tryd.prog w = .ok (.tuple #[.int .i64 0, .bool false]) w := fun w => by kernel_rfl
theorem plain_comp : (Tryd.prog.info? 240).map (·.comparable) = some true := by kernel_rfl
theorem plain_size : (Tryd.prog.info? 269).map (·.size) = some 1 := by kernel_rfl
theorem text_any (l : List Int) (B : Option Base) (w : World) (v : Value) (hv : ErrAt w l B v) (hne : l ≠ [] ∨ B ≠ none) (hl : ∀ m ∈ l, F64 m) (hf : oFits B) (hlen : l.length ≤ 10000) (hp : Pow w) (hpl : PlainAt w B) (hpg : PlainIs w B) :
    Calls Tryd.prog 23 #[v] w fun e w' => e = .returned (tx (eText l B)) ∧ Same w w' := by
  cases l with
  | cons n l =>
    obtain ⟨b, u, rfl, hb, hu⟩ := hv
    have hE := at_error l B w b n u hb hu hl hf (by simp at hlen; omega) hp hpl
    generalize tx (eText (n :: l) B) = T at *
    have ta0 := ta_At_Failed (.pointer (some ⟨b, 0, none⟩))
    have ta1 := ta_At_Cancelled (.pointer (some ⟨b, 0, none⟩))
    have ta2 := ta_At_Late (.pointer (some ⟨b, 0, none⟩))
    have ta3 := ta_At_Panicked (.pointer (some ⟨b, 0, none⟩))
    have ta4 := ta_At_At (.pointer (some ⟨b, 0, none⟩))
    clear hb hu hf hpl hpg
    go_enter Tryd.func23, Tryd.ntmps23
    go_wp2_with fail
    refine hE.mono ?_
    rintro e w2 ⟨rfl, s2⟩
    clear hE
    go_wp2_with fail
    go_ret
    exact ⟨rfl, s2⟩
  | nil =>
  cases B with
  | none => simp at hne
  | some B =>
  cases B with
  | errno k =>
    obtain rfl := hv
    have ta0 := ta_Errno_Failed (.int .i64 k)
    have ta1 := ta_Errno_Cancelled (.int .i64 k)
    have ta2 := ta_Errno_Late (.int .i64 k)
    have ta3 := ta_Errno_Panicked (.int .i64 k)
    have ta4 := ta_Errno_At (.int .i64 k)
    have ta5 := ta_Errno_Errno (.int .i64 k)
    have hE := errno_error w k hf.1 hf.2
    show Calls _ _ _ _ fun e w' => e = .returned (tx (errText k)) ∧ Same w w'
    generalize tx (errText k) = T at *
    go_enter Tryd.func23, Tryd.ntmps23
    go_wp2_with fail
    refine hE.mono ?_
    rintro e w2 ⟨rfl, rfl⟩
    clear hE
    go_wp2_with fail
    go_ret
    exact ⟨rfl, Chg.refl _ _⟩
  | failed k =>
    obtain ⟨c, rfl, hc⟩ := hv
    have ta0 := ta_Failed_Failed (.pointer (some ⟨c, 0, none⟩))
    have hE := failed_error w c k hf.1 hf.2 hp hc
    show Calls _ _ _ _ fun e w' => e = .returned (tx ([102, 97, 105, 108, 101, 100] ++ [32] ++ Lib.itoa k)) ∧ Same w w'
    generalize tx ([102, 97, 105, 108, 101, 100] ++ [32] ++ Lib.itoa k) = T at *
    clear hc
    go_enter Tryd.func23, Tryd.ntmps23
    go_wp2_with fail
    refine hE.mono ?_
    rintro e w2 ⟨rfl, s2⟩
    clear hE
    go_wp2_with fail
    go_ret
    exact ⟨rfl, s2⟩
  | cancelled k =>
    obtain ⟨c, rfl, hc⟩ := hv
    have ta0 := ta_Cancelled_Failed (.pointer (some ⟨c, 0, none⟩))
    have ta1 := ta_Cancelled_Cancelled (.pointer (some ⟨c, 0, none⟩))
    have hE := cancelled_error w c k hf.1 hf.2 hp hc
    show Calls _ _ _ _ fun e w' => e = .returned (tx ([99, 97, 110, 99, 101, 108, 108, 101, 100] ++ [32] ++ Lib.itoa k)) ∧ Same w w'
    generalize tx ([99, 97, 110, 99, 101, 108, 108, 101, 100] ++ [32] ++ Lib.itoa k) = T at *
    clear hc
    go_enter Tryd.func23, Tryd.ntmps23
    go_wp2_with fail
    refine hE.mono ?_
    rintro e w2 ⟨rfl, s2⟩
    clear hE
    go_wp2_with fail
    go_ret
    exact ⟨rfl, s2⟩
  | late k =>
    obtain ⟨c, rfl, hc⟩ := hv
    have ta0 := ta_Late_Failed (.pointer (some ⟨c, 0, none⟩))
    have ta1 := ta_Late_Cancelled (.pointer (some ⟨c, 0, none⟩))
    have ta2 := ta_Late_Late (.pointer (some ⟨c, 0, none⟩))
    have hE := late_error w c k hf.1 hf.2 hp hc
    show Calls _ _ _ _ fun e w' => e = .returned (tx ([108, 97, 116, 101] ++ [32] ++ Lib.itoa k)) ∧ Same w w'
    generalize tx ([108, 97, 116, 101] ++ [32] ++ Lib.itoa k) = T at *
    clear hc
    go_enter Tryd.func23, Tryd.ntmps23
    go_wp2_with fail
    refine hE.mono ?_
    rintro e w2 ⟨rfl, s2⟩
    clear hE
    go_wp2_with fail
    go_ret
    exact ⟨rfl, s2⟩
  | panicked x =>
    obtain ⟨c, rfl, hc⟩ := hv
    have ta0 := ta_Panicked_Failed (.pointer (some ⟨c, 0, none⟩))
    have ta1 := ta_Panicked_Cancelled (.pointer (some ⟨c, 0, none⟩))
    have ta2 := ta_Panicked_Late (.pointer (some ⟨c, 0, none⟩))
    have ta3 := ta_Panicked_Panicked (.pointer (some ⟨c, 0, none⟩))
    have hE := panicked_error w c x hc
    go_enter Tryd.func23, Tryd.ntmps23
    go_wp2_with fail
    refine hE.mono ?_
    rintro e w2 ⟨rfl, rfl⟩
    clear hE
    go_wp2_with fail
    go_ret
    exact ⟨rfl, Chg.refl _ _⟩
  | plain a =>
    obtain rfl := hv
    have ta0 := ta_Plain_Failed (.pointer (some a))
    have ta1 := ta_Plain_Cancelled (.pointer (some a))
    have ta2 := ta_Plain_Late (.pointer (some a))
    have ta3 := ta_Plain_Panicked (.pointer (some a))
    have ta4 := ta_Plain_At (.pointer (some a))
    have ta5 := ta_Plain_Errno (.pointer (some a))
    have hg : w.cell? ⟨0, 0, none⟩ = some (.iface 240 (.pointer (some a))) := hpg
    clear hpg hpl
    obtain ⟨i, hi, hcmp⟩ := Option.map_eq_some_iff.1 plain_comp
    obtain ⟨j, hj, hjs⟩ := Option.map_eq_some_iff.1 plain_size
    have heq := run_eql_iface_ptr_same (P := Tryd.prog) w a Tryd.underlying27 Tryd.underlying240 hi hcmp hj
    go_enter Tryd.func23, Tryd.ntmps23
    go_wp2_with fail
    go_ret
    exact ⟨rfl, Chg.refl _ _⟩
end Go.Proofs.YtgdjbfcdkibdbaaDoor
