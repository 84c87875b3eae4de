/- fault.Class at every error that the chapter's wrappings build: the number of the first Errno of its chain; ErrFailed without one; OK of nil. Conditions: errors.errorType holds what the program lays. -/
import Derived.Test.YtgljjgmfhememaaGreatDoorErr
namespace Go.Proofs.YtgljjgmfhememaaGreatDoor
open Go Go.RowKit
set_option maxRecDepth 100000
/-- What an error is, without what it is wrapped by. -/
inductive Base where
  | errno (n : Int) | failed (n : Int) | cancelled (n : Int) | late (n : Int) | panicked (x : Value) | plain (a : Addr)
/-- .. in memory. -/
def Base.In (w : World) : Base → Value → Prop
  | .errno n, v => v = .iface 33 (.int .i64 n)
  | .failed n, v => ∃ b, v = .iface 138 (.pointer (some ⟨b, 0, none⟩)) ∧ Blk w b #[.int .i64 n] 140
  | .cancelled n, v => ∃ b, v = .iface 266 (.pointer (some ⟨b, 0, none⟩)) ∧ Blk w b #[.int .i64 n] 310
  | .late n, v => ∃ b, v = .iface 154 (.pointer (some ⟨b, 0, none⟩)) ∧ Blk w b #[.int .i64 n] 156
  | .panicked x, v => ∃ b, v = .iface 196 (.pointer (some ⟨b, 0, none⟩)) ∧ Blk w b #[x] 200
  | .plain a, v => v = .iface 357 (.pointer (some a))
/-- Its number. -/
def Base.cls : Base → Int
  | .errno n => n | .failed _ => 23 | .cancelled _ => 20 | .late _ => 21 | .panicked _ => 22 | .plain _ => 23
/-- An error, wrapped by these numbers, the outermost first; none: no error at the bottom. -/
def ErrAt (w : World) : List Int → Option Base → Value → Prop
  | [], none, v => v = .nilIface
  | [], some B, v => B.In w v
  | n :: l, B, v => ∃ b u, v = .iface 227 (.pointer (some ⟨b, 0, none⟩)) ∧ Blk w b #[.int .i64 n, u] 229 ∧ ErrAt w l B u
/-- The class of an error. -/
def clsOf (l : List Int) : Option Base → Int
  | some B => B.cls
  | none => if l = [] then 0 else 23
/-- The Errno that a chain holds. -/
def numOf : Option Base → Option Value
  | some (.plain _) => none
  | some B => some (.int .i64 B.cls)
  | none => none

theorem Base.In.same {w w' : World} (h : Same w w') {B : Base} {v : Value} (hb : B.In w v) : B.In w' v := by
  cases B with
  | errno n => exact hb
  | failed n => obtain ⟨b, hv, hk⟩ := hb; exact ⟨b, hv, h.blk hk (fun x => x)⟩
  | cancelled n => obtain ⟨b, hv, hk⟩ := hb; exact ⟨b, hv, h.blk hk (fun x => x)⟩
  | late n => obtain ⟨b, hv, hk⟩ := hb; exact ⟨b, hv, h.blk hk (fun x => x)⟩
  | panicked x => obtain ⟨b, hv, hk⟩ := hb; exact ⟨b, hv, h.blk hk (fun x => x)⟩
  | plain a => exact hb
theorem ErrAt.same {w w' : World} (h : Same w w') : ∀ {l : List Int} {B : Option Base} {v : Value}, ErrAt w l B v → ErrAt w' l B v
  | [], none, _, hb => hb
  | [], some _, _, hb => Base.In.same h hb
  | _ :: _, _, _, ⟨b, u, hv, hk, hr⟩ => ⟨b, u, hv, h.blk hk (fun x => x), ErrAt.same h hr⟩
theorem ErrAt.shape {w : World} : ∀ {l : List Int} {B : Option Base} {v : Value}, ErrAt w l B v → v = .nilIface ∧ l = [] ∧ B = none ∨ ∃ E u, v = .iface E u
  | [], none, _, h => .inl ⟨h, rfl, rfl⟩
  | [], some B, _, h => .inr (by
    cases B with
    | errno n => exact ⟨_, _, h⟩
    | failed n => obtain ⟨b, hv, _⟩ := h; exact ⟨_, _, hv⟩
    | cancelled n => obtain ⟨b, hv, _⟩ := h; exact ⟨_, _, hv⟩
    | late n => obtain ⟨b, hv, _⟩ := h; exact ⟨_, _, hv⟩
    | panicked x => obtain ⟨b, hv, _⟩ := h; exact ⟨_, _, hv⟩
    | plain a => exact ⟨_, _, h⟩)
  | _ :: _, _, _, ⟨_, _, hv, _, _⟩ => .inr ⟨_, _, hv⟩

theorem Base.chain {w : World} {B : Base} {v : Value} (h : B.In w v) (k : Nat) : Chain w 33 (k + 1) v (numOf (some B)) := by
  cases B with
  | errno n => cases h; exact .hit (lk_Errno _) isT_Errno
  | failed n => obtain ⟨b, rfl, _⟩ := h; exact .more (lk_Failed _) notT_Failed_Errno (un_Failed b w) (.hit (lk_Errno _) isT_Errno)
  | cancelled n => obtain ⟨b, rfl, _⟩ := h; exact .more (lk_Cancelled _) notT_Cancelled_Errno (un_Cancelled b w) (.hit (lk_Errno _) isT_Errno)
  | late n => obtain ⟨b, rfl, _⟩ := h; exact .more (lk_Late _) notT_Late_Errno (un_Late b w) (.hit (lk_Errno _) isT_Errno)
  | panicked x => obtain ⟨b, rfl, _⟩ := h; exact .more (lk_Panicked _) notT_Panicked_Errno (un_Panicked b w) (.hit (lk_Errno _) isT_Errno)
  | plain a => cases h; exact .bare (lk_Str _) notT_Str_Errno (bare_Str _)
theorem ErrAt.chain {w : World} : ∀ {l : List Int} {B : Option Base} {v : Value}, ErrAt w l B v → v ≠ .nilIface → Chain w 33 (l.length + 1) v (numOf B)
  | [], none, _, h, hv => absurd h hv
  | [], some _, _, h, _ => Base.chain h 0
  | n :: l, B, _, ⟨b, u, rfl, hk, hr⟩, _ => by
    rcases ErrAt.shape hr with ⟨rfl, rfl, rfl⟩ | ⟨E, x, rfl⟩
    · exact .last (lk_At _) notT_At_Errno (un_At b _ _ w hk)
    · exact .more (lk_At _) notT_At_Errno (un_At b _ _ w hk) (ErrAt.chain hr (by simp))

theorem ErrType.same {w w' : World} (h : Same w w') (hg : ErrType w) (hl : 0 < w.heap.size) : ErrType w' := by
  unfold ErrType at *
  rw [h.cell (p := ⟨0, 0, none⟩) hl (fun x => x)]; exact hg
theorem class_nil (w : World) : Calls Tryz.prog 16 #[.nilIface] w fun e w' => e = .returned (.int .i64 0) ∧ Same w w' := by
  go_enter Tryz.func16, Tryz.ntmps16
  go_wp2
  go_ret
  exact ⟨rfl, Chg.refl _ _⟩
theorem class_hit (k : Nat) (E : TypeId) (v : Value) (x : Int) (w : World) (hg : ErrType w) (hl : 0 < w.heap.size) (hc : ∀ w1, Same w w1 → Chain w1 33 k (.iface E v) (some (.int .i64 x))) :
    Calls Tryz.prog 16 #[.iface E v] w fun e w' => e = .returned (.int .i64 x) ∧ Same w w' := by
  go_enter Tryz.func16, Tryz.ntmps16
  go_wp2_with fail
  refine (As_hit_Errno k E v _ w.heap.size x (.int .i64 0) (hg.same ((Chg.refl _ _).alloc _) hl) (Nat.lt_of_lt_of_le hl (by simp)) (Blk.new _ _ _) (fun w1 h1 => hc w1 (((Chg.refl _ _).alloc _).trans h1))).mono ?_
  rintro e w' ⟨rfl, h1, h2⟩
  have c0 := h2.cellAt 0 (v := .int .i64 x) rfl
  go_wp2_with fail
  go_ret
  refine ⟨rfl, ?_⟩
  exact Chg.trans' ((Chg.refl _ _).alloc _) h1 (fun i hi e => by omega)
theorem class_none (k : Nat) (E : TypeId) (v : Value) (w : World) (hg : ErrType w) (hl : 0 < w.heap.size) (hc : ∀ w1, Same w w1 → Chain w1 33 k (.iface E v) none) :
    Calls Tryz.prog 16 #[.iface E v] w fun e w' => e = .returned (.int .i64 23) ∧ Same w w' := by
  go_enter Tryz.func16, Tryz.ntmps16
  go_wp2_with fail
  refine (As_none_Errno k E v _ w.heap.size (hg.same ((Chg.refl _ _).alloc _) hl) (Nat.lt_of_lt_of_le hl (by simp)) (fun w1 h1 => hc w1 (((Chg.refl _ _).alloc _).trans h1))).mono ?_
  rintro e w' ⟨rfl, h1⟩
  go_wp2_with fail
  go_ret
  exact ⟨rfl, ((Chg.refl _ _).alloc _).trans h1⟩
/-- fault.Class, whatever the error. -/
theorem class_any {l : List Int} {B : Option Base} {v : Value} (w : World) (h : ErrAt w l B v) (hg : ErrType w) (hl : 0 < w.heap.size) :
    Calls Tryz.prog 16 #[v] w fun e w' => e = .returned (.int .i64 (clsOf l B)) ∧ Same w w' := by
  rcases ErrAt.shape h with ⟨rfl, rfl, rfl⟩ | ⟨E, x, rfl⟩
  · exact class_nil w
  · have hc : ∀ w1, Same w w1 → Chain w1 33 (l.length + 1) (.iface E x) (numOf B) := fun w1 h1 => (h.same h1).chain (by simp)
    cases B with
    | none =>
      have : clsOf l none = 23 := by
        unfold clsOf
        rw [if_neg]
        rintro rfl
        cases h
      rw [this]
      exact class_none _ E x w hg hl hc
    | some B =>
      cases B with
      | plain a => exact class_none _ E x w hg hl hc
      | _ => exact class_hit _ E x _ w hg hl hc
end Go.Proofs.YtgljjgmfhememaaGreatDoor
