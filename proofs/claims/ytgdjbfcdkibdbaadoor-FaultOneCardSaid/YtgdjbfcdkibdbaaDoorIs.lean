/- errors.Is of an error of this chapter and an Errno. Conditions: none. -/
import Derived.Test.YtgdjbfcdkibdbaaDoorClass
import Derived.LaidEql
import Derived.Lib.IfaceEq
namespace Go.Proofs.YtgdjbfcdkibdbaaDoor
open Go Go.RowKit
set_option maxRecDepth 100000
set_option maxHeartbeats 1000000
theorem isTypeOf (v : Value) : ∀ w, (callFunc 80 #[.iface 35 v]).run Tryd.prog w = .ok (.value (rt 35)) w := fun _ => by kernel_rfl
theorem isComparable : ∀ w, (callFunc 179 #[.agg #[hd 35]]).run Tryd.prog w = .ok (.value (.bool true)) w := fun _ => by kernel_rfl
theorem isMethod (v : Value) : ∀ w, (method 384 185 v "Comparable").run Tryd.prog w = .ok (179, v) w := fun _ => by kernel_rfl
/-- A link that has no Is of its own. -/
def NoIs (E : TypeId) : Prop := ∀ v w, (Instr.typeAssert (.iface E v) 27 187 true).run Tryd.prog w = .ok (.tuple #[.nilIface, .bool false]) w
theorem noIs_Errno : NoIs 35 := fun v w => run_typeAssert_lacksB Tryd.underlying187 (by kernel_rfl) (by kernel_rfl) v _ w
theorem noIs_Failed : NoIs 55 := fun v w => run_typeAssert_lacksB Tryd.underlying187 (by kernel_rfl) (by kernel_rfl) v _ w
theorem noIs_Cancelled : NoIs 56 := fun v w => run_typeAssert_lacksB Tryd.underlying187 (by kernel_rfl) (by kernel_rfl) v _ w
theorem noIs_Late : NoIs 57 := fun v w => run_typeAssert_lacksB Tryd.underlying187 (by kernel_rfl) (by kernel_rfl) v _ w
theorem noIs_Panicked : NoIs 58 := fun v w => run_typeAssert_lacksB Tryd.underlying187 (by kernel_rfl) (by kernel_rfl) v _ w
theorem noIs_At : NoIs 59 := fun v w => run_typeAssert_lacksB Tryd.underlying187 (by kernel_rfl) (by kernel_rfl) v _ w
/-- The chain from an error on, down to an Errno. -/
inductive IsCh (w : World) : Nat → Value → Int → Prop
  | num {n k} : IsCh w n (.iface 35 (.int .i64 k)) k
  | more {n E v E' v' k} : E ≠ 35 → NoIs E → Un w E v (.iface E' v') → IsCh w n (.iface E' v') k → IsCh w (n + 1) (.iface E v) k
theorem is_ok (n : Nat) (e0 : Value) (k t : Int) (w : World) (hc : IsCh w n e0 k) : Calls Tryd.prog 81 #[e0, .iface 35 (.int .i64 t), .bool true] w fun e w' => e = .returned (.bool (decide (k = t))) ∧ w = w' := by
  go_enter Tryd.func81, Tryd.ntmps81
  go_wp2_with fail
  go_loopg [0] n (fun m p wr => IsCh wr m p k ∧ wr = w)
  case atStart => exact ⟨hc, rfl⟩
  case round =>
  obtain ⟨hch, rfl⟩ := hrel
  clear hc
  cases hch with
  | num =>
    have h1 := fun w => Lib.run_eql_iface_int (P := Tryd.prog) w (t := 27) (tx := 35) (k := .i64) (q := .i64) k t Tryd.underlying27 (by kernel_rfl) Tryd.underlying35
    have h2 := noIs_Errno
    unfold NoIs at h2
    have b1 := (bare_Errno (.int .i64 k)).one
    have b2 := (bare_Errno (.int .i64 k)).many
    by_cases hk : k = t
    · subst hk
      have h1' : ∀ w, (binOp .eql 27 (.iface 35 (.int .i64 k)) (.iface 35 (.int .i64 k))).run Tryd.prog w = .ok (.bool true) w := fun w => by rw [h1 w]; simp
      clear h1
      go_wp2_with fail
      go_ret
      exact ⟨by simp, rfl⟩
    · have h1' : ∀ w, (binOp .eql 27 (.iface 35 (.int .i64 k)) (.iface 35 (.int .i64 t))).run Tryd.prog w = .ok (.bool false) w := fun w => by rw [h1 w]; simp [hk]
      clear h1
      go_wp2_with fail
      go_ret
      exact ⟨by simp [hk], rfl⟩
  | @more m E v E' v' _ hE h2 h3 h4 =>
    have h1 := fun w => run_eql_iface_types (P := Tryd.prog) E 35 v (.int .i64 t) Tryd.underlying27 hE w
    have k3 := h3.is
    unfold NoIs at h2
    obtain ⟨f, k4, k5, k6⟩ := h3.call
    clear h3
    go_wp2_with fail
    refine k6.mono ?_; rintro e w' ⟨rfl, rfl⟩
    clear k6
    go_wp2_with fail
    go_roundg m
    case measure => omega
    case rel => exact ⟨h4, rfl⟩
theorem Is_ok (n : Nat) (E : TypeId) (v : Value) (k t : Int) (w : World) (hc : IsCh w n (.iface E v) k) : Calls Tryd.prog 45 #[.iface E v, .iface 35 (.int .i64 t)] w fun e w' => e = .returned (.bool (decide (k = t))) ∧ w = w' := by
  have h1 := isTypeOf
  have h2 := isComparable
  have h3 := isMethod
  go_enter Tryd.func45, Tryd.ntmps45
  go_wp2_with fail
  refine (is_ok n _ k t w hc).mono ?_
  rintro e w' ⟨rfl, rfl⟩
  go_wp2_with fail
  go_ret
  exact ⟨rfl, rfl⟩
theorem Base.isCh {w : World} {B : Base} {v : Value} (h : B.In w v) (hB : ∀ a, B ≠ .plain a) : IsCh w 1 v B.cls := by
  cases B with
  | errno n => cases h; exact .num
  | failed n => obtain ⟨b, rfl, _⟩ := h; exact .more (by decide) noIs_Failed (un_Failed b w) .num
  | cancelled n => obtain ⟨b, rfl, _⟩ := h; exact .more (by decide) noIs_Cancelled (un_Cancelled b w) .num
  | late n => obtain ⟨b, rfl, _⟩ := h; exact .more (by decide) noIs_Late (un_Late b w) .num
  | panicked x => obtain ⟨b, rfl, _⟩ := h; exact .more (by decide) noIs_Panicked (un_Panicked b w) .num
  | plain a => exact absurd rfl (hB a)
theorem ErrAt.isCh {w : World} {B : Base} (hB : ∀ a, B ≠ .plain a) : ∀ {l : List Int} {v : Value}, ErrAt w l (some B) v → IsCh w (l.length + 1) v B.cls
  | [], _, h => Base.isCh h hB
  | n :: l, _, ⟨b, u, rfl, hk, hr⟩ => by
    rcases ErrAt.shape hr with ⟨_, _, h⟩ | ⟨E, x, rfl⟩
    · cases h
    · exact .more (by decide) noIs_At (un_At b _ _ w hk) (ErrAt.isCh hB hr)
end Go.Proofs.YtgdjbfcdkibdbaaDoor
