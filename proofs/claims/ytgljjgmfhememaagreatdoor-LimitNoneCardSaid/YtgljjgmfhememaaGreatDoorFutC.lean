/- Package future with a nil thread, one goroutine: Complete, Then of one that is filled, Map of one that is filled. Conditions: none. -/
import Derived.Test.YtgljjgmfhememaaGreatDoorFutA
import Derived.Test.YtgljjgmfhememaaGreatDoorFutB
namespace Go.Proofs.YtgljjgmfhememaaGreatDoor
open Go Go.RowKit
set_option maxRecDepth 100000
set_option maxHeartbeats 1000000
variable {w : World} {b s l lb hb pb : Nat} {st last head v : Int} {pl : Array Value} {x : Value}
theorem fut_complete_none (u : Int) (h : FutAt w b s l lb hb pb 0 last 0 pl v x) :
    Calls Tryz.prog 28 #[.pointer (some ⟨b, 0, none⟩), .pointer none, .int .i64 u, .nilIface] w fun e w' =>
      e = .returned (.bool true) ∧ FutAt w' b s l lb hb pb 2 last (-1) pl u .nilIface ∧ Chg (fun k => k = b ∨ k = s ∨ k = hb) w w' := by
  have hlt := h.lt
  go_enter Tryz.func28, Tryz.ntmps28
  go_wp2_with fail
  refine (fut_claim h).mono ?_
  rintro e w1 ⟨p, rfl, h1, hp, hz, g1⟩
  go_wp2_with fail
  refine (fut_fill_none p u h1 hp).mono ?_
  rintro e w2 ⟨rfl, h2, _, g2⟩
  go_wp2_with fail
  go_ret
  exact ⟨rfl, h2, (g1.mono (fun _ _ e => .inr (.inl e))).trans' g2 (fun _ _ e => by omega)⟩
theorem fut_complete_one (u : Int) (F : Nat) (cap : Array Value) (S : Nat → Prop) (R : World → Prop) (h : FutAt w b s l lb hb pb 0 last 1 pl v x) (e2 : pl[2]? = some (.func (.func F) #[] cap)) (e3 : pl[3]? = some (.int .i64 0))
    (hE : ∀ a1 a2 a3 w, (callFunc F (#[a1, a2, a3] ++ cap)).run Tryz.prog w = .ok (.enter F (#[a1, a2, a3] ++ cap)) w)
    (hS : ¬ S b ∧ ¬ S s ∧ ¬ S l ∧ ¬ S lb ∧ ¬ S hb ∧ ¬ S pb) (hSn : ∀ k, S k → k < w.heap.size)
    (hf : ∀ w1, Chg (fun k => k = b ∨ k = s ∨ k = hb) w w1 → Calls Tryz.prog F (#[.pointer none, .int .i64 u, .nilIface] ++ cap) w1 fun e w2 => e = .returned (.tuple #[]) ∧ Chg S w1 w2 ∧ R w2) :
    Calls Tryz.prog 28 #[.pointer (some ⟨b, 0, none⟩), .pointer none, .int .i64 u, .nilIface] w fun e w' =>
      e = .returned (.bool true) ∧ FutAt w' b s l lb hb pb 2 last (-1) pl u .nilIface ∧ R w' ∧ Chg (fun k => k = b ∨ k = s ∨ k = hb ∨ S k) w w' := by
  have hlt := h.lt
  go_enter Tryz.func28, Tryz.ntmps28
  go_wp2_with fail
  refine (fut_claim h).mono ?_
  rintro e w1 ⟨p, rfl, h1, hp, hz, g1⟩
  go_wp2_with fail
  refine (fut_fill_one p u F cap S R h1 e2 e3 hE ⟨hS.1, hS.2.1, hS.2.2.1, hS.2.2.2.1, hS.2.2.2.2.1, hS.2.2.2.2.2, fun e => by have := hSn p e; omega⟩ (fun w2 hw2 => hf w2 ((g1.mono (fun _ _ e => .inr (.inl e))).trans' hw2 (fun _ _ e => by omega))) hp).mono ?_
  rintro e w2 ⟨rfl, h2, _, hr, g2⟩
  go_wp2_with fail
  go_ret
  exact ⟨rfl, h2, hr, (g1.mono (fun _ _ e => .inr (.inl e))).trans' g2 (fun i hi e => by
    rcases e with e | e | e | e | e
    · omega
    · exact .inl e
    · exact .inr (.inl e)
    · exact .inr (.inr (.inl e))
    · exact .inr (.inr (.inr e)))⟩
theorem fut_then_done (h : FutAt w b s l lb hb pb st last (-1) pl v x) (F : Nat) (cap : Array Value) (S : Nat → Prop) (R : World → Prop)
    (hE : ∀ a1 a2 a3 w, (callFunc F (#[a1, a2, a3] ++ cap)).run Tryz.prog w = .ok (.enter F (#[a1, a2, a3] ++ cap)) w)
    (hS : ¬ S b)
    (hf : ∀ w1, Same w w1 → Calls Tryz.prog F (#[.pointer none, .int .i64 v, x] ++ cap) w1 fun e w2 => e = .returned (.tuple #[]) ∧ Chg S w1 w2 ∧ R w2) :
    Calls Tryz.prog 69 #[.pointer (some ⟨b, 0, none⟩), .pointer none, .func (.func F) #[] cap] w fun e w' => e = .returned (.int .i64 0) ∧ R w' ∧ Chg S w w' := by
  have hnn : ∀ w, (binOp .eql 131 (.func (.func F) #[] cap) .nilFunc).run Tryz.prog w = .ok (.bool false) w := fun w => by kernel_rfl
  have c1 := h.blk.cellAt 1 (v := .pointer (some ⟨l, 0, none⟩)) rfl
  have c2 := h.blk.cellAt 2 (v := .int .i64 v) rfl
  have c3 := h.blk.cellAt 3 (v := x) rfl
  go_enter Tryz.func69, Tryz.ntmps69
  go_wp2_with (first | (go_at_call 65; refine (fut_made _ _ _ _ h.blk rfl).mono ?_; rintro e w' ⟨rfl, rfl⟩) | (go_at_call 129; refine (flist_add_closed _ _ _ _ _ _ _ _ h.list).mono ?_; rintro e w' ⟨rfl, rfl⟩))
  go_region_held3 (fun w' => w'.cell? ⟨b, 2, none⟩ = some (.int .i64 v) ∧ w'.cell? ⟨b, 3, none⟩ = some x) (go_keep)
    (first | (refine (hf _ (Chg.drew (Chg.refl _ _))).mono ?_; rintro e w6 ⟨rfl, g6, hr⟩; have x6 := g6.blk h.blk.drew hS; have d2 := x6.cellAt 2 (v := .int .i64 v) rfl; have d3 := x6.cellAt 3 (v := x) rfl))
  go_wp2_with fail
  go_ret
  exact ⟨rfl, hr, (Chg.drew (Chg.refl _ _)).trans' g6 (fun _ _ e => e)⟩
end Go.Proofs.YtgljjgmfhememaaGreatDoor
