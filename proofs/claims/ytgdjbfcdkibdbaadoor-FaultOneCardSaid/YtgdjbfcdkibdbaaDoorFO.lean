/- What FaultOne's walks share. Conditions: none. -/
import Derived.Test.YtgdjbfcdkibdbaaDoorMakeB
import Derived.Test.YtgdjbfcdkibdbaaDoorWorks12
import Derived.Test.YtgdjbfcdkibdbaaDoorChainT
import Derived.Test.YtgdjbfcdkibdbaaDoorNumB
import Derived.Test.YtgdjbfcdkibdbaaDoorIs
import Derived.Deep.RegionHeld3
namespace Go.Proofs.YtgdjbfcdkibdbaaDoor
open Go Go.RowKit
set_option maxRecDepth 100000
set_option maxHeartbeats 1000000
/-- An error down to its bottom, which a search passes on its way. -/
theorem ErrAt.split {w : World} {B : Base} : ∀ {l : List Int} {v : Value}, ErrAt w l (some B) v → ∃ u, B.In w u ∧ ∀ w1, Same w w1 → ∀ T r, NotT 59 T → Chain w1 T 1 u r → Chain w1 T (l.length + 1) v r
  | [], v, h => ⟨v, h, fun _ _ _ _ _ hc => hc⟩
  | n :: l, _, ⟨b, u, rfl, hk, hr⟩ => by
    obtain ⟨x, hx, hc⟩ := ErrAt.split hr
    rcases ErrAt.shape hr with ⟨_, _, h⟩ | ⟨E, y, rfl⟩
    · cases h
    · exact ⟨x, hx, fun w1 s T r hA hch => .more (lk_At _) hA (un_At b _ _ w1 (s.blk hk (fun x => x))) (hc w1 s T r hA hch)⟩
theorem ch_Failed_Cancelled (b : Nat) (w : World) : Chain w 56 1 (.iface 55 (.pointer (some ⟨b, 0, none⟩))) none := .more (lk_Failed _) no_Failed_Cancelled (un_Failed b w) (.bare (lk_Errno _) noErrno_Cancelled (bare_Errno _))
theorem ch_Failed_Late (b : Nat) (w : World) : Chain w 57 1 (.iface 55 (.pointer (some ⟨b, 0, none⟩))) none := .more (lk_Failed _) no_Failed_Late (un_Failed b w) (.bare (lk_Errno _) noErrno_Late (bare_Errno _))
theorem ch_Failed_Panicked (b : Nat) (w : World) : Chain w 58 1 (.iface 55 (.pointer (some ⟨b, 0, none⟩))) none := .more (lk_Failed _) no_Failed_Panicked (un_Failed b w) (.bare (lk_Errno _) noErrno_Panicked (bare_Errno _))
theorem ch_Cancelled_Failed (b : Nat) (w : World) : Chain w 55 1 (.iface 56 (.pointer (some ⟨b, 0, none⟩))) none := .more (lk_Cancelled _) no_Cancelled_Failed (un_Cancelled b w) (.bare (lk_Errno _) noErrno_Failed (bare_Errno _))
theorem ch_Cancelled_Late (b : Nat) (w : World) : Chain w 57 1 (.iface 56 (.pointer (some ⟨b, 0, none⟩))) none := .more (lk_Cancelled _) no_Cancelled_Late (un_Cancelled b w) (.bare (lk_Errno _) noErrno_Late (bare_Errno _))
theorem ch_Cancelled_Panicked (b : Nat) (w : World) : Chain w 58 1 (.iface 56 (.pointer (some ⟨b, 0, none⟩))) none := .more (lk_Cancelled _) no_Cancelled_Panicked (un_Cancelled b w) (.bare (lk_Errno _) noErrno_Panicked (bare_Errno _))
theorem ch_Late_Failed (b : Nat) (w : World) : Chain w 55 1 (.iface 57 (.pointer (some ⟨b, 0, none⟩))) none := .more (lk_Late _) no_Late_Failed (un_Late b w) (.bare (lk_Errno _) noErrno_Failed (bare_Errno _))
theorem ch_Late_Cancelled (b : Nat) (w : World) : Chain w 56 1 (.iface 57 (.pointer (some ⟨b, 0, none⟩))) none := .more (lk_Late _) no_Late_Cancelled (un_Late b w) (.bare (lk_Errno _) noErrno_Cancelled (bare_Errno _))
theorem ch_Late_Panicked (b : Nat) (w : World) : Chain w 58 1 (.iface 57 (.pointer (some ⟨b, 0, none⟩))) none := .more (lk_Late _) no_Late_Panicked (un_Late b w) (.bare (lk_Errno _) noErrno_Panicked (bare_Errno _))
theorem ch_Panicked_Failed (b : Nat) (w : World) : Chain w 55 1 (.iface 58 (.pointer (some ⟨b, 0, none⟩))) none := .more (lk_Panicked _) no_Panicked_Failed (un_Panicked b w) (.bare (lk_Errno _) noErrno_Failed (bare_Errno _))
theorem ch_Panicked_Cancelled (b : Nat) (w : World) : Chain w 56 1 (.iface 58 (.pointer (some ⟨b, 0, none⟩))) none := .more (lk_Panicked _) no_Panicked_Cancelled (un_Panicked b w) (.bare (lk_Errno _) noErrno_Cancelled (bare_Errno _))
theorem ch_Panicked_Late (b : Nat) (w : World) : Chain w 57 1 (.iface 58 (.pointer (some ⟨b, 0, none⟩))) none := .more (lk_Panicked _) no_Panicked_Late (un_Panicked b w) (.bare (lk_Errno _) noErrno_Late (bare_Errno _))
theorem ch_hit_Failed (b : Nat) (w : World) : Chain w 55 1 (.iface 55 (.pointer (some ⟨b, 0, none⟩))) (some (.pointer (some ⟨b, 0, none⟩))) := .hit (lk_Failed _) isFailed
theorem ch_hit_Cancelled (b : Nat) (w : World) : Chain w 56 1 (.iface 56 (.pointer (some ⟨b, 0, none⟩))) (some (.pointer (some ⟨b, 0, none⟩))) := .hit (lk_Cancelled _) isCancelled
theorem ch_hit_Late (b : Nat) (w : World) : Chain w 57 1 (.iface 57 (.pointer (some ⟨b, 0, none⟩))) (some (.pointer (some ⟨b, 0, none⟩))) := .hit (lk_Late _) isLate
theorem ch_hit_Panicked (b : Nat) (w : World) : Chain w 58 1 (.iface 58 (.pointer (some ⟨b, 0, none⟩))) (some (.pointer (some ⟨b, 0, none⟩))) := .hit (lk_Panicked _) isPanicked
/-- What stands: the description, its numbers, the error. -/
structure FO (w W : World) (db : Nat) (K num : Int) (v' : Value) (ats : List Int) (B : Base) (x : Value) : Prop where
  d : Blk W db #[.int .i64 K, .int .i64 num, v'] 43
  i : Ints W v' ats
  e : ErrAt W ats (some B) x
  m : Same w W
theorem FO.same {w W W' : World} {db : Nat} {K num : Int} {v' : Value} {ats : List Int} {B : Base} {x : Value} (h : FO w W db K num v' ats B x) (hs : Same W W') : FO w W' db K num v' ats B x :=
  ⟨hs.blk h.d (fun x => x), h.i.same hs, h.e.same hs, h.m.trans hs⟩
end Go.Proofs.YtgdjbfcdkibdbaaDoor
