/- Package future with a nil thread, one goroutine: Fill without functions. Conditions: none. -/
import Derived.Test.YtgljjgmfhememaaGreatDoorFut
import Derived.Deep.RegionHeld3
import Derived.StillTailTactics
namespace Go.Proofs.YtgljjgmfhememaaGreatDoor
open Go Go.RowKit
set_option maxRecDepth 100000
set_option maxHeartbeats 1000000
variable {w : World} {b s l lb hb pb : Nat} {st last head v : Int} {pl : Array Value} {x : Value}
theorem fut_fill_none (p : Nat) (u : Int) (h : FutAt w b s l lb hb pb 1 last 0 pl v x) (hp : Blk w p #[.pointer (some ⟨b, 0, none⟩)] 251) :
    Calls Tryz.prog 85 #[.pointer (some ⟨p, 0, none⟩), .pointer none, .int .i64 u, .nilIface] w fun e w' =>
      e = .returned (.bool true) ∧ FutAt w' b s l lb hb pb 2 last (-1) pl u .nilIface ∧ Blk w' p #[.pointer none] 251 ∧ Chg (fun k => k = p ∨ k = b ∨ k = s ∨ k = hb) w w' := by
  have hne := h.ne
  have q1 : p ≠ b := hp.ne h.blk (by decide)
  have q2 : p ≠ s := hp.ne h.cell (by decide)
  have q3 : p ≠ l := hp.ne h.list.blk (by decide)
  have q4 : p ≠ lb := hp.ne h.list.clast (by decide)
  have q5 : p ≠ hb := hp.ne h.list.chead (by decide)
  have q6 : p ≠ pb := hp.ne h.list.places (by decide)
  have c0 := hp.cellAt 0 (v := .pointer (some ⟨b, 0, none⟩)) rfl
  have z0 := hp.free 0
  have hb1 := h.blk.set_other (a := ⟨p, 0, none⟩) q1 (.pointer none)
  have hb2 := hb1.set 2 (.int .i64 u)
  have hb3 := hb2.set 3 .nilIface
  have c2 := hb1.cellAt 2 (v := .int .i64 v) rfl
  have z2 := hb1.free 2
  have c3 := hb2.cellAt 3 (v := x) rfl
  have z3 := hb2.free 3
  have d0 := hb3.cellAt 0 (v := .pointer (some ⟨s, 0, none⟩)) rfl
  have hc3 : Chg (fun k => k = p ∨ k = b) w (((w.setCell ⟨p, 0, none⟩ (.pointer none)).setCell ⟨b, 2, none⟩ (.int .i64 u)).setCell ⟨b, 3, none⟩ .nilIface) := (((Chg.refl _ _).setCell (.inl (.inl rfl)) _).setCell (.inl (.inr rfl)) _).setCell (.inl (.inr rfl)) _
  have hp3 := ((hp.set 0 (.pointer none)).set_other (a := ⟨b, 2, none⟩) (Ne.symm q1) (.int .i64 u)).set_other (a := ⟨b, 3, none⟩) (Ne.symm q1) .nilIface
  have hs3 : CellAt (((w.setCell ⟨p, 0, none⟩ (.pointer none)).setCell ⟨b, 2, none⟩ (.int .i64 u)).setCell ⟨b, 3, none⟩ .nilIface) s 1 := hc3.blk h.cell (by omega)
  have hl3 := h.list.chg hc3 (by omega) (by omega) (by omega) (by omega)
  have hq : p ≠ b ∧ p ≠ s ∧ p ≠ l ∧ p ≠ lb ∧ p ≠ hb ∧ p ≠ pb := ⟨q1, q2, q3, q4, q5, q6⟩
  have HH := Lib.hid (And.intro hb3 (And.intro hc3 (And.intro hp3 (And.intro hs3 (And.intro hl3 (And.intro hne (And.intro hq h)))))))
  clear hb1 hb2 hb3 hc3 hp3 hs3 hl3 hne hq h hp q1 q2 q3 q4 q5 q6
  go_enter Tryz.func85, Tryz.ntmps85
  go_wp2_with fail
  clear c0 z0 c2 z2 c3 z3 d0
  obtain ⟨hb3, hc3, hp3, hs3, hl3, hne, hq, h⟩ := HH.out
  clear HH
  generalize ((w.setCell ⟨p, 0, none⟩ (.pointer none)).setCell ⟨b, 2, none⟩ (.int .i64 u)).setCell ⟨b, 3, none⟩ .nilIface = w3 at *
  refine (store_ok _ _ _ _ hs3).mono ?_
  rintro e w4 ⟨rfl, g1, g2⟩
  have hb4 := g2.blk hb3 (by omega)
  have d1 := hb4.cellAt 1 (v := .pointer (some ⟨l, 0, none⟩)) rfl
  have hl4 := hl3.chg g2 (by omega) (by omega) (by omega) (by omega)
  have hp4 := g2.blk hp3 (by omega)
  clear hb3 hl3 hp3 hs3
  go_wp2_with fail
  refine (flist_close_nil _ _ _ _ _ _ _ hl4).mono ?_
  rintro e w5 ⟨rfl, k1, k2⟩
  go_wp2_with fail
  refine wp_loop_rounds 1 ?_; rw [rounds_succ]
  go_wp2_with fail
  go_ret
  exact ⟨rfl, ⟨k2.blk hb4 (by omega), k2.blk g1 (by omega), k1, h.n1, h.n2⟩, k2.blk hp4 (by omega), ((hc3.mono (fun _ _ e => by omega)).trans (g2.mono (fun _ _ e => by omega))).trans (k2.mono (fun _ _ e => by omega))⟩
theorem fut_fill_fail (p : Nat) (u : Int) (E : TypeId) (y : Value) (h : FutAt w b s l lb hb pb 1 last 0 pl v x) (hp : Blk w p #[.pointer (some ⟨b, 0, none⟩)] 251) :
    Calls Tryz.prog 85 #[.pointer (some ⟨p, 0, none⟩), .pointer none, .int .i64 u, .iface E y] w fun e w' =>
      e = .returned (.bool true) ∧ FutAt w' b s l lb hb pb 3 last (-1) pl 0 (.iface E y) ∧ Blk w' p #[.pointer none] 251 ∧ Chg (fun k => k = p ∨ k = b ∨ k = s ∨ k = hb) w w' := by
  have hne := h.ne
  have q1 : p ≠ b := hp.ne h.blk (by decide)
  have q2 : p ≠ s := hp.ne h.cell (by decide)
  have q3 : p ≠ l := hp.ne h.list.blk (by decide)
  have q4 : p ≠ lb := hp.ne h.list.clast (by decide)
  have q5 : p ≠ hb := hp.ne h.list.chead (by decide)
  have q6 : p ≠ pb := hp.ne h.list.places (by decide)
  have c0 := hp.cellAt 0 (v := .pointer (some ⟨b, 0, none⟩)) rfl
  have z0 := hp.free 0
  have hb1 := h.blk.set_other (a := ⟨p, 0, none⟩) q1 (.pointer none)
  have hb2 := hb1.set 2 (.int .i64 u)
  have hb25 := hb2.set 3 (.iface E y)
  have hb3 := hb25.set 2 (.int .i64 0)
  have c25 := hb25.cellAt 2 (v := .int .i64 u) rfl
  have z25 := hb25.free 2
  have c2 := hb1.cellAt 2 (v := .int .i64 v) rfl
  have z2 := hb1.free 2
  have c3 := hb2.cellAt 3 (v := x) rfl
  have z3 := hb2.free 3
  have d0 := hb3.cellAt 0 (v := .pointer (some ⟨s, 0, none⟩)) rfl
  have hc3 : Chg (fun k => k = p ∨ k = b) w ((((w.setCell ⟨p, 0, none⟩ (.pointer none)).setCell ⟨b, 2, none⟩ (.int .i64 u)).setCell ⟨b, 3, none⟩ (.iface E y)).setCell ⟨b, 2, none⟩ (.int .i64 0)) := ((((Chg.refl _ _).setCell (.inl (.inl rfl)) _).setCell (.inl (.inr rfl)) _).setCell (.inl (.inr rfl)) _).setCell (.inl (.inr rfl)) _
  have hp3 := (((hp.set 0 (.pointer none)).set_other (a := ⟨b, 2, none⟩) (Ne.symm q1) (.int .i64 u)).set_other (a := ⟨b, 3, none⟩) (Ne.symm q1) (.iface E y)).set_other (a := ⟨b, 2, none⟩) (Ne.symm q1) (.int .i64 0)
  have hs3 : CellAt ((((w.setCell ⟨p, 0, none⟩ (.pointer none)).setCell ⟨b, 2, none⟩ (.int .i64 u)).setCell ⟨b, 3, none⟩ (.iface E y)).setCell ⟨b, 2, none⟩ (.int .i64 0)) s 1 := hc3.blk h.cell (by omega)
  have hl3 := h.list.chg hc3 (by omega) (by omega) (by omega) (by omega)
  have hq : p ≠ b ∧ p ≠ s ∧ p ≠ l ∧ p ≠ lb ∧ p ≠ hb ∧ p ≠ pb := ⟨q1, q2, q3, q4, q5, q6⟩
  have HH := Lib.hid (And.intro hb3 (And.intro hc3 (And.intro hp3 (And.intro hs3 (And.intro hl3 (And.intro hne (And.intro hq h)))))))
  clear hb1 hb2 hb25 hb3 hc3 hp3 hs3 hl3 hne hq h hp q1 q2 q3 q4 q5 q6
  go_enter Tryz.func85, Tryz.ntmps85
  go_wp2_with fail
  clear c0 z0 c2 z2 c3 z3 d0 c25 z25
  obtain ⟨hb3, hc3, hp3, hs3, hl3, hne, hq, h⟩ := HH.out
  clear HH
  generalize (((w.setCell ⟨p, 0, none⟩ (.pointer none)).setCell ⟨b, 2, none⟩ (.int .i64 u)).setCell ⟨b, 3, none⟩ (.iface E y)).setCell ⟨b, 2, none⟩ (.int .i64 0) = w3 at *
  refine (store_ok _ _ _ _ hs3).mono ?_
  rintro e w4 ⟨rfl, g1, g2⟩
  have hb4 := g2.blk hb3 (by omega)
  have d1 := hb4.cellAt 1 (v := .pointer (some ⟨l, 0, none⟩)) rfl
  have hl4 := hl3.chg g2 (by omega) (by omega) (by omega) (by omega)
  have hp4 := g2.blk hp3 (by omega)
  clear hb3 hl3 hp3 hs3
  go_wp2_with fail
  refine (flist_close_nil _ _ _ _ _ _ _ hl4).mono ?_
  rintro e w5 ⟨rfl, k1, k2⟩
  go_wp2_with fail
  refine wp_loop_rounds 1 ?_; rw [rounds_succ]
  go_wp2_with fail
  go_ret
  exact ⟨rfl, ⟨k2.blk hb4 (by omega), k2.blk g1 (by omega), k1, h.n1, h.n2⟩, k2.blk hp4 (by omega), ((hc3.mono (fun _ _ e => by omega)).trans (g2.mono (fun _ _ e => by omega))).trans (k2.mono (fun _ _ e => by omega))⟩
end Go.Proofs.YtgljjgmfhememaaGreatDoor
