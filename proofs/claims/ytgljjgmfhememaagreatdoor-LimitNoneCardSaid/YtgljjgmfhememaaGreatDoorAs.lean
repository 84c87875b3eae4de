/- errors.As over a chain of errors that unwrap one another (each link by its type's own Unwrap): the first link of the type that is asked for is stored into the target; false without one. Conditions: none. -/
import Derived.Test.YtgljjgmfhememaaGreatDoorCell
import Derived.Stop.Asserts
import Derived.Deep.LoopGhost
namespace Go.Proofs.YtgljjgmfhememaaGreatDoor
open Go Go.RowKit
set_option maxRecDepth 100000
/-- A type's handle. -/
abbrev hd (T : TypeId) : Value := .pointer (some ⟨5, T, none⟩)
/-- A Type of reflectlite. -/
abbrev rt (T : TypeId) : Value := .iface 291 (.agg #[hd T])

/-- What errors.as asks of a link of a chain. -/
structure Lk (E : TypeId) (v : Value) : Prop where
  ty : ∀ w, (callFunc 179 #[.iface E v]).run Tryz.prog w = .ok (.value (rt E)) w
  asI : ∀ w, (Instr.typeAssert (.iface E v) 29 296 true).run Tryz.prog w = .ok (.tuple #[.nilIface, .bool false]) w
/-- It is not of the type that is asked for. -/
def NotT (E T : TypeId) : Prop := ∀ w, (callFunc 268 #[.agg #[hd E], rt T]).run Tryz.prog w = .ok (.value (.bool false)) w
/-- It is. -/
def IsT (E T : TypeId) : Prop := ∀ w, (callFunc 268 #[.agg #[hd E], rt T]).run Tryz.prog w = .ok (.value (.bool true)) w
/-- It unwraps to u. -/
structure Un (w : World) (E : TypeId) (v : Value) (u : Value) : Prop where
  is : ∀ w, (Instr.typeAssert (.iface E v) 29 298 true).run Tryz.prog w = .ok (.tuple #[.iface E v, .bool true]) w
  call : ∃ f, (∀ w, (method 488 E v "Unwrap").run Tryz.prog w = .ok (f, v) w) ∧ (∀ w, (callFunc f #[v]).run Tryz.prog w = .ok (.enter f #[v]) w) ∧ Calls Tryz.prog f #[v] w fun e w' => e = .returned u ∧ w = w'
/-- It does not unwrap. -/
structure Bare (E : TypeId) (v : Value) : Prop where
  one : ∀ w, (Instr.typeAssert (.iface E v) 29 298 true).run Tryz.prog w = .ok (.tuple #[.nilIface, .bool false]) w
  many : ∀ w, (Instr.typeAssert (.iface E v) 29 300 true).run Tryz.prog w = .ok (.tuple #[.nilIface, .bool false]) w

/-- The chain from an error on: the first link of type T holds x (none: there is none); n: so many links at most. -/
inductive Chain (w : World) (T : TypeId) : Nat → Value → Option Value → Prop
  | hit {n v} : Lk T v → IsT T T → Chain w T n (.iface T v) (some v)
  | bare {n E v} : Lk E v → NotT E T → Bare E v → Chain w T n (.iface E v) none
  | last {n E v} : Lk E v → NotT E T → Un w E v .nilIface → Chain w T n (.iface E v) none
  | more {n E v E' v' r} : Lk E v → NotT E T → Un w E v (.iface E' v') → Chain w T n (.iface E' v') r → Chain w T (n + 1) (.iface E v) r

set_option maxHeartbeats 400000 in
theorem as_none (n : Nat) (T : TypeId) (e0 : Value) (w : World) (tgt : Value) (a1 a2 a3 : Value) (hc : Chain (w.alloc (.cells #[a1, a2, a3] 233)) T n e0 none) :
    Calls Tryz.prog 127 #[e0, tgt, .agg #[a1, a2, a3], rt T] w fun e w' => e = .returned (.bool false) ∧ w.alloc (.cells #[a1, a2, a3] 233) = w' := by
  go_enter Tryz.func127, Tryz.ntmps127
  go_wp2_with fail
  go_loopg [0] n (fun k p wr => Chain wr T k p none ∧ wr = w.alloc (.cells #[a1, a2, a3] 233))
  case atStart => exact ⟨hc, rfl⟩
  case round =>
  obtain ⟨hch, rfl⟩ := hrel
  clear hc
  cases hch with
  | bare h1 h2 h3 =>
    have k1 := h1.ty; have k2 := h1.asI; have k3 := h3.one; have k4 := h3.many; unfold NotT at h2
    clear h1 h3
    go_wp2_with fail
    go_ret
    exact ⟨rfl, rfl⟩
  | last h1 h2 h3 =>
    have k1 := h1.ty; have k2 := h1.asI; have k3 := h3.is; unfold NotT at h2
    obtain ⟨f, k4, k5, k6⟩ := h3.call
    clear h1 h3
    go_wp2_with fail
    refine k6.mono ?_; rintro e w' ⟨rfl, rfl⟩
    clear k6
    go_wp2_with fail
    go_ret
    exact ⟨rfl, rfl⟩
  | @more m _ _ _ _ _ h1 h2 h3 h4 =>
    have k1 := h1.ty; have k2 := h1.asI; have k3 := h3.is; unfold NotT at h2
    obtain ⟨f, k4, k5, k6⟩ := h3.call
    clear h1 h3
    go_wp2_with fail
    refine k6.mono ?_; rintro e w' ⟨rfl, rfl⟩
    clear k6
    go_wp2_with fail
    go_roundg m
    case measure => omega
    case rel => exact ⟨h4, rfl⟩

end Go.Proofs.YtgljjgmfhememaaGreatDoor
