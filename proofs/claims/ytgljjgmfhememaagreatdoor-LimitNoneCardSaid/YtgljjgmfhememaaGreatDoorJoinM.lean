/- What the functions of All, Any and Quorum do when they are called with a value, of two futures. Conditions: none. -/
import Derived.Test.YtgljjgmfhememaaGreatDoorJoinL
namespace Go.Proofs.YtgljjgmfhememaaGreatDoor
open Go Go.RowKit Go.Sort
set_option maxRecDepth 100000
set_option maxHeartbeats 1000000
/-- Filled with v. -/
def FutV (w : World) (g : FR) (v : Int) : Prop := ∃ last pl, FutAt w g.b g.s g.l g.lb g.hb g.pb 2 last (-1) pl v .nilIface
theorem FutV.chg {S : Nat → Prop} {w w' : World} {r : FR} {v : Int} (h : FutV w r v) (hc : Chg S w w') (hn : ∀ k, r.has k → ¬ S k) : FutV w' r v := by
  obtain ⟨la, pl, h⟩ := h
  exact ⟨la, pl, h.chg hc (hn _ (.inl rfl)) (hn _ (.inr (.inl rfl))) (hn _ (.inr (.inr (.inl rfl)))) (hn _ (.inr (.inr (.inr (.inl rfl))))) (hn _ (.inr (.inr (.inr (.inr (.inl rfl)))))) (hn _ (.inr (.inr (.inr (.inr (.inr rfl))))))⟩
theorem complete_open (w : World) (g : FR) (v : Int) (h : FutF w g []) : Calls Tryz.prog 28 #[.pointer (some ⟨g.b, 0, none⟩), .pointer none, .int .i64 v, .nilIface] w fun e w' => e = .returned (.bool true) ∧ FutV w' g v ∧ Chg g.has w w' := by
  obtain ⟨pl, h, _⟩ := h
  have h' : FutAt w g.b g.s g.l g.lb g.hb g.pb 0 0 0 pl 0 .nilIface := h
  exact (fut_complete_none v h').mono fun _ _ ⟨a, b, c⟩ => ⟨a, ⟨_, _, b⟩, c.mono (fun k _ e => by unfold FR.has; omega)⟩
theorem complete_done (w : World) (g : FR) (v u : Int) (h : FutV w g v) : Calls Tryz.prog 28 #[.pointer (some ⟨g.b, 0, none⟩), .pointer none, .int .i64 u, .nilIface] w fun e w' => e = .returned (.bool false) ∧ w = w' := by
  obtain ⟨la, pl, h⟩ := h
  exact fut_complete_no h (by decide) u .nilIface
theorem await_done (w : World) (g : FR) (v : Int) (h : FutV w g v) : Calls Tryz.prog 25 #[.pointer (some ⟨g.b, 0, none⟩), .pointer none] w fun e w' => e = .returned (.tuple #[.int .i64 v, .nilIface]) ∧ Same w w' := by
  obtain ⟨la, pl, h⟩ := h
  exact fut_await h (by decide)
theorem any_fun_open (w : World) (g : FR) (k6 : Nat) (v : Int) (x y z : Value) (hb : Blk w k6 #[.pointer (some ⟨g.b, 0, none⟩)] 24) (hg : FutF w g []) :
    Calls Tryz.prog 60 #[.pointer none, .int .i64 v, .nilIface, .pointer (some ⟨k6, 0, none⟩), x, y, z] w fun e w' => e = .returned (.tuple #[]) ∧ FutV w' g v ∧ Chg g.has w w' := by
  have c0 := hb.cellAt 0 (v := .pointer (some ⟨g.b, 0, none⟩)) rfl
  clear hb
  have hnn : ∀ w, (binOp .eql 29 .nilIface .nilIface).run Tryz.prog w = .ok (.bool true) w := fun w => by kernel_rfl
  go_enter Tryz.func60, Tryz.ntmps60
  go_wp2_with fail
  refine (complete_open _ _ _ hg).mono ?_
  rintro e w1 ⟨rfl, h1, c1⟩
  have H := Lib.hid h1
  clear h1
  go_wp2_with fail
  exact bodyPost_ret (results_none rfl _ _ _) rfl ⟨rfl, H.out, c1⟩
theorem any_fun_done (w : World) (g : FR) (k6 : Nat) (v u : Int) (x y z : Value) (hb : Blk w k6 #[.pointer (some ⟨g.b, 0, none⟩)] 24) (hg : FutV w g u) :
    Calls Tryz.prog 60 #[.pointer none, .int .i64 v, .nilIface, .pointer (some ⟨k6, 0, none⟩), x, y, z] w fun e w' => e = .returned (.tuple #[]) ∧ w = w' := by
  have c0 := hb.cellAt 0 (v := .pointer (some ⟨g.b, 0, none⟩)) rfl
  clear hb
  have H := Lib.hid hg
  clear hg
  have hnn : ∀ w, (binOp .eql 29 .nilIface .nilIface).run Tryz.prog w = .ok (.bool true) w := fun w => by kernel_rfl
  go_enter Tryz.func60, Tryz.ntmps60
  go_wp2_with fail
  refine (complete_done _ _ _ _ H.out).mono ?_
  rintro e w1 ⟨rfl, rfl⟩
  go_wp2_with fail
  exact bodyPost_ret (results_none rfl _ _ _) rfl ⟨rfl, rfl⟩
/-- A quorum's cells with so many good ones. -/
structure QN (w : World) (k : Int) (b gd kg kgd kw : Nat) (n : Int) : Prop where
  good : CellAt w gd n
  box : Blk w kg #[.pointer (some ⟨b, 0, none⟩)] 24
  gbox : Blk w kgd #[.pointer (some ⟨gd, 0, none⟩)] 26
  want : Blk w kw #[.int .i64 k] 2
theorem QN.chg {S : Nat → Prop} {w w' : World} {k n : Int} {b gd kg kgd kw : Nat} (h : QN w k b gd kg kgd kw n) (hc : Chg S w w') (h1 : ¬ S gd) (h2 : ¬ S kg) (h3 : ¬ S kgd) (h4 : ¬ S kw) : QN w' k b gd kg kgd kw n :=
  ⟨h.good.chg hc h1, hc.blk h.box h2, hc.blk h.gbox h3, hc.blk h.want h4⟩
theorem q_fun_more (w : World) (k n : Int) (b gd kg kgd kw : Nat) (v : Int) (x y : Value) (h : QN w k b gd kg kgd kw n) (hn : 0 ≤ n ∧ n ≤ 10) (hk : ¬ n + 1 = k) :
    Calls Tryz.prog 63 #[.pointer none, .int .i64 v, .nilIface, .pointer (some ⟨kgd, 0, none⟩), .pointer (some ⟨kw, 0, none⟩), .pointer (some ⟨kg, 0, none⟩), x, y] w fun e w' => e = .returned (.tuple #[]) ∧ QN w' k b gd kg kgd kw (n + 1) ∧ Chg (· = gd) w w' := by
  have n1 : kg ≠ gd := h.box.ne h.good (by decide)
  have n2 : kgd ≠ gd := h.gbox.ne h.good (by decide)
  have n3 : kw ≠ gd := h.want.ne h.good (by decide)
  have c1 := h.gbox.cellAt 0 (v := .pointer (some ⟨gd, 0, none⟩)) rfl
  have c2 := h.want.cellAt 0 (v := .int .i64 k) rfl
  have hw : wrap64 (n + 1) = n + 1 := by unfold wrap64; omega
  have hne : ((n + 1 : Int) == k) = false := beq_eq_false_iff_ne.2 hk
  have c3 : Calls Tryz.prog 34 #[.pointer (some ⟨gd, 0, none⟩), .pointer none, .int .i64 1] w.drew fun e w' => e = .returned (.int .i64 (n + 1)) ∧ CellAt w' gd (n + 1) ∧ Chg (· = gd) w.drew w' := by
    have := add_ok w.drew gd n 1 (h.good.chg (S := fun _ => False) ((Chg.refl _ _).drew) (fun x => x))
    rw [hw] at this
    exact this
  have C3 := Lib.hid c3
  have H := Lib.hid h
  clear c3 h hw hk
  have hnn : ∀ w, (binOp .eql 29 .nilIface .nilIface).run Tryz.prog w = .ok (.bool true) w := fun w => by kernel_rfl
  go_enter Tryz.func63, Tryz.ntmps63
  go_wp2_with fail
  go_region_held3 (fun w' => w'.cell? ⟨kgd, 0, none⟩ = some (.pointer (some ⟨gd, 0, none⟩)) ∧ w'.cell? ⟨kw, 0, none⟩ = some (.int .i64 k)) (go_keep)
    (first | (go_at_call 34; refine (C3.out).mono ?_; rintro e w1 ⟨rfl, h1, q1⟩; have d1 := (q1.blk (H.out.gbox.drew) n2).cellAt 0 (v := .pointer (some ⟨gd, 0, none⟩)) rfl; have d2 := (q1.blk (H.out.want.drew) n3).cellAt 0 (v := .int .i64 k) rfl))
  have hq : QN w1 k b gd kg kgd kw (n + 1) := ⟨h1, q1.blk (H.out.box.drew) n1, q1.blk (H.out.gbox.drew) n2, q1.blk (H.out.want.drew) n3⟩
  have hc : Chg (· = gd) w w1 := ((Chg.refl _ w).drew).trans q1
  have HQ := Lib.hid hq
  have HC := Lib.hid hc
  clear hq hc h1 q1 d1 d2 c1 c2
  go_wp2_with fail
  go_end0
  exact ⟨rfl, HQ.out, HC.out⟩
theorem q_fun_full (w : World) (g : FR) (k n : Int) (gd kg kgd kw : Nat) (v : Int) (x y : Value) (h : QN w k g.b gd kg kgd kw n) (hn : 0 ≤ n ∧ n ≤ 10) (hk : n + 1 = k) (hg : FutF w g []) (hgd : ¬ g.has gd) :
    Calls Tryz.prog 63 #[.pointer none, .int .i64 v, .nilIface, .pointer (some ⟨kgd, 0, none⟩), .pointer (some ⟨kw, 0, none⟩), .pointer (some ⟨kg, 0, none⟩), x, y] w fun e w' => e = .returned (.tuple #[]) ∧ FutV w' g k ∧ Chg (fun q => q = gd ∨ g.has q) w w' := by
  have n1 : kg ≠ gd := h.box.ne h.good (by decide)
  have n2 : kgd ≠ gd := h.gbox.ne h.good (by decide)
  have n3 : kw ≠ gd := h.want.ne h.good (by decide)
  have c1 := h.gbox.cellAt 0 (v := .pointer (some ⟨gd, 0, none⟩)) rfl
  have c2 := h.want.cellAt 0 (v := .int .i64 k) rfl
  have hw : wrap64 (n + 1) = k := by unfold wrap64; omega
  have c3 : Calls Tryz.prog 34 #[.pointer (some ⟨gd, 0, none⟩), .pointer none, .int .i64 1] w.drew fun e w' => e = .returned (.int .i64 k) ∧ CellAt w' gd k ∧ Chg (· = gd) w.drew w' := by
    have := add_ok w.drew gd n 1 (h.good.chg (S := fun _ => False) ((Chg.refl _ _).drew) (fun x => x))
    rw [hw] at this
    exact this
  have C3 := Lib.hid c3
  have H := Lib.hid h
  have HG := Lib.hid hg
  clear c3 h hw hk hg
  have hnn : ∀ w, (binOp .eql 29 .nilIface .nilIface).run Tryz.prog w = .ok (.bool true) w := fun w => by kernel_rfl
  go_enter Tryz.func63, Tryz.ntmps63
  go_wp2_with fail
  go_region_held3 (fun w' => w'.cell? ⟨kgd, 0, none⟩ = some (.pointer (some ⟨gd, 0, none⟩)) ∧ w'.cell? ⟨kw, 0, none⟩ = some (.int .i64 k)) (go_keep)
    (first | (go_at_call 34; refine (C3.out).mono ?_; rintro e w1 ⟨rfl, h1, q1⟩; have d1 := (q1.blk (H.out.gbox.drew) n2).cellAt 0 (v := .pointer (some ⟨gd, 0, none⟩)) rfl; have d2 := (q1.blk (H.out.want.drew) n3).cellAt 0 (v := .int .i64 k) rfl))
  have d3 := (q1.blk (H.out.box.drew) n1).cellAt 0 (v := .pointer (some ⟨g.b, 0, none⟩)) rfl
  have hc : Chg (· = gd) w w1 := ((Chg.refl _ w).drew).trans q1
  have hG1 : FutF w1 g [] := HG.out.chg hc (fun q hq e => hgd (e ▸ hq))
  have HG1 := Lib.hid hG1
  have HC := Lib.hid hc
  clear hG1 hc h1 q1 d1 c1 c2
  go_wp2_with fail
  refine (complete_open _ _ _ HG1.out).mono ?_
  rintro e w2 ⟨rfl, h2, c2⟩
  have H2 := Lib.hid (And.intro h2 c2)
  clear h2 c2 d2 d3
  go_wp2_with fail
  go_end0
  exact ⟨rfl, H2.out.1, (HC.out.mono (fun _ _ e => .inl e)).trans (H2.out.2.mono (fun _ _ e => .inr e))⟩
end Go.Proofs.YtgljjgmfhememaaGreatDoor
