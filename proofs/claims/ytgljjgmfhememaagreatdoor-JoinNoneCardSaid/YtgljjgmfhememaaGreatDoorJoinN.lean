/- What the functions of All do when they are called with a value, of two futures. Conditions: none. -/
import Derived.Test.YtgljjgmfhememaaGreatDoorJoinM
namespace Go.Proofs.YtgljjgmfhememaaGreatDoor
open Go Go.RowKit Go.Sort
set_option maxRecDepth 100000
set_option maxHeartbeats 1000000
/-- A joint of two. -/
structure J2 (w : World) (g : FR) (kl ke kj kx i0 i1 : Nat) (left a0 a1 : Int) : Prop where
  joint : Blk w kj #[.pointer (some ⟨g.b, 0, none⟩), .pointer (some ⟨kl, 0, none⟩), .slice (some ⟨ke, 0, none⟩) 2 2] 41
  left : CellAt w kl left
  ends : Blk w ke #[.int .i64 a0, .nilIface, .int .i64 a1, .nilIface] 135
  box : Blk w kx #[.pointer (some ⟨kj, 0, none⟩)] 32
  ib0 : Blk w i0 #[.int .i64 0] 3
  ib1 : Blk w i1 #[.int .i64 1] 3
theorem J2.chg {S : Nat → Prop} {w w' : World} {g : FR} {kl ke kj kx i0 i1 : Nat} {left a0 a1 : Int} (h : J2 w g kl ke kj kx i0 i1 left a0 a1) (hc : Chg S w w') (h1 : ¬ S kj) (h2 : ¬ S kl) (h3 : ¬ S ke) (h4 : ¬ S kx) (h5 : ¬ S i0) (h6 : ¬ S i1) : J2 w' g kl ke kj kx i0 i1 left a0 a1 :=
  ⟨hc.blk h.joint h1, h.left.chg hc h2, hc.blk h.ends h3, hc.blk h.box h4, hc.blk h.ib0 h5, hc.blk h.ib1 h6⟩
theorem over_two (w : World) (g : FR) (kl ke kj kx i0 i1 : Nat) (left a0 a1 : Int) (h : J2 w g kl ke kj kx i0 i1 left a0 a1) (hg : FutF w g []) :
    Calls Tryz.prog 58 #[.pointer (some ⟨kj, 0, none⟩), .pointer none] w fun e w' => e = .returned (.tuple #[]) ∧ FutV w' g 2 ∧ Chg g.has w w' := by
  have c0 := h.joint.cellAt 0 (v := .pointer (some ⟨g.b, 0, none⟩)) rfl
  have c2 := h.joint.cellAt 2 (v := .slice (some ⟨ke, 0, none⟩) 2 2) rfl
  have d0 := h.ends.cellAt 0 (v := .int .i64 a0) rfl
  have d1 := h.ends.cellAt 1 (v := .nilIface) rfl
  have d2 := h.ends.cellAt 2 (v := .int .i64 a1) rfl
  have d3 := h.ends.cellAt 3 (v := .nilIface) rfl
  have lt1 := h.joint.lt
  have lt2 := h.ends.lt
  have hnn : ∀ w, (binOp .neq 29 .nilIface .nilIface).run Tryz.prog w = .ok (.bool false) w := fun w => by kernel_rfl
  have H := Lib.hid (And.intro h hg)
  clear h hg
  go_enter Tryz.func58, Tryz.ntmps58
  go_wp2_with fail
  refine wp_loop_rounds 3 ?_; rw [rounds_succ]
  go_wp2_with fail
  rw [rounds_succ]
  go_wp2_with fail
  rw [rounds_succ]
  go_wp2_with fail
  have s2 : Same w ((w.alloc (.cells #[.int .i64 a0, .nilIface] 135)).alloc (.cells #[.int .i64 a1, .nilIface] 135)) := ((Chg.refl _ _).alloc _).alloc _
  generalize (w.alloc (.cells #[.int .i64 a0, .nilIface] 135)).alloc (.cells #[.int .i64 a1, .nilIface] 135) = W at *
  clear c0 c2 d0 d1 d2 d3 lt1 lt2
  have hj := H.out.1.chg s2 (fun x => x) (fun x => x) (fun x => x) (fun x => x) (fun x => x) (fun x => x)
  have hg := H.out.2.chg s2 (fun _ _ x => x)
  have hgd := hg.chg (S := fun _ => False) ((Chg.refl _ W).drew) (fun _ _ x => x)
  have c0 := hj.joint.cellAt 0 (v := .pointer (some ⟨g.b, 0, none⟩)) rfl
  have c2 := hj.joint.cellAt 2 (v := .slice (some ⟨ke, 0, none⟩) 2 2) rfl
  have hcall := Lib.hid (complete_open W.drew g 2 hgd)
  have HJ := Lib.hid (And.intro hj (And.intro hg s2))
  clear hj hg hgd s2 H
  go_region_held3 (fun w' => w'.cell? ⟨kj, 0, none⟩ = some (.pointer (some ⟨g.b, 0, none⟩)) ∧ w'.cell? ⟨kj, 2, none⟩ = some (.slice (some ⟨ke, 0, none⟩) 2 2)) (go_keep)
    (first | (go_at_call 28; refine hcall.out.mono ?_; rintro e w1 ⟨rfl, h1, q1⟩; have e1 := q1.blk HJ.out.1.joint.drew (HJ.out.2.1.ne_blk HJ.out.1.joint (by decide) (by decide) (by decide) (by decide)); have c0' := e1.cellAt 0 (v := .pointer (some ⟨g.b, 0, none⟩)) rfl; have c2' := e1.cellAt 2 (v := .slice (some ⟨ke, 0, none⟩) 2 2) rfl))
  have HE := Lib.hid (And.intro h1 ((HJ.out.2.2.mono (fun _ _ x => x.elim)).drew.trans q1))
  clear h1 q1 e1 c0' c2' c0 c2
  go_wp2_with fail
  go_end0
  exact ⟨rfl, HE.out.1, HE.out.2⟩
theorem all_fun_0 (w : World) (g : FR) (kl ke kj kx i0 i1 : Nat) (left a0 a1 v : Int) (h : J2 w g kl ke kj kx i0 i1 left a0 a1) (hl : 2 ≤ left ∧ left ≤ 10) :
    Calls Tryz.prog 57 #[.pointer none, .int .i64 v, .nilIface, .pointer (some ⟨kx, 0, none⟩), .pointer (some ⟨i0, 0, none⟩)] w fun e w' => e = .returned (.tuple #[]) ∧ J2 w' g kl ke kj kx i0 i1 (left - 1) v a1 ∧ Chg (fun q => q = kl ∨ q = ke) w w' := by
  have c1 := h.box.cellAt 0 (v := .pointer (some ⟨kj, 0, none⟩)) rfl
  have c2 := h.joint.cellAt 2 (v := .slice (some ⟨ke, 0, none⟩) 2 2) rfl
  have c3 := h.ib0.cellAt 0 (v := .int .i64 0) rfl
  have c4 := h.ends.cellAt 0 (v := .int .i64 a0) rfl
  have c5 := h.ends.cellAt 1 (v := .nilIface) rfl
  have z4 := h.ends.free 0
  have z5 := h.ends.free 1
  have H := Lib.hid h
  clear h
  go_enter Tryz.func57, Tryz.ntmps57
  go_wp2_with fail
  go_region
  have hj : J2 (((w.setCell ⟨ke, 0, none⟩ (.int .i64 v)).setCell ⟨ke, 1, none⟩ .nilIface).drew) g kl ke kj kx i0 i1 left v a1 := by
    have h := H.out
    have n1 := h.joint.ne h.ends (by decide)
    have n2 := Blk.ne h.left h.ends (by decide)
    have n3 := h.box.ne h.ends (by decide)
    have n4 := h.ib0.ne h.ends (by decide)
    have n5 := h.ib1.ne h.ends (by decide)
    have hc : Chg (· = ke) w (((w.setCell ⟨ke, 0, none⟩ (.int .i64 v)).setCell ⟨ke, 1, none⟩ .nilIface).drew) := (((Chg.refl (· = ke) w).setCell (p := ⟨ke, 0, none⟩) (.inl rfl) _).setCell (p := ⟨ke, 1, none⟩) (.inl rfl) _).drew
    exact ⟨hc.blk h.joint n1, h.left.chg hc n2, ((h.ends.set 0 (.int .i64 v)).set 1 .nilIface).drew, hc.blk h.box n3, hc.blk h.ib0 n4, hc.blk h.ib1 n5⟩
  have hc : Chg (· = ke) w (((w.setCell ⟨ke, 0, none⟩ (.int .i64 v)).setCell ⟨ke, 1, none⟩ .nilIface).drew) := (((Chg.refl (· = ke) w).setCell (p := ⟨ke, 0, none⟩) (.inl rfl) _).setCell (p := ⟨ke, 1, none⟩) (.inl rfl) _).drew
  generalize ((w.setCell ⟨ke, 0, none⟩ (.int .i64 v)).setCell ⟨ke, 1, none⟩ .nilIface).drew = W at *
  clear c1 c2 c3 c4 c5 z4 z5
  have c1 := hj.box.cellAt 0 (v := .pointer (some ⟨kj, 0, none⟩)) rfl
  have c2 := hj.joint.cellAt 1 (v := .pointer (some ⟨kl, 0, none⟩)) rfl
  have HJ := Lib.hid (And.intro hj hc)
  have hw : wrap64 (left + -1) = left - 1 := by unfold wrap64; omega
  have c3 := add_ok W kl left (-1) hj.left
  rw [hw] at c3
  have C3 := Lib.hid c3
  have hne : ((left - 1 : Int) == 0) = false := beq_eq_false_iff_ne.2 (by omega)
  clear hj hc c3 hw H
  go_wp2_with fail
  refine C3.out.mono ?_
  rintro e w2 ⟨rfl, h2, q2⟩
  have HE := Lib.hid (And.intro h2 q2)
  clear h2 q2 C3 c1 c2
  go_wp2_with fail
  go_end0
  obtain ⟨h2, q2⟩ := HE.out
  obtain ⟨hj, hc⟩ := HJ.out
  have n1 := hj.joint.ne hj.left (by decide)
  have n3 := hj.ends.ne hj.left (by decide)
  have n4 := hj.box.ne hj.left (by decide)
  have n5 := hj.ib0.ne hj.left (by decide)
  have n6 := hj.ib1.ne hj.left (by decide)
  exact ⟨rfl, ⟨q2.blk hj.joint n1, h2, q2.blk hj.ends n3, q2.blk hj.box n4, q2.blk hj.ib0 n5, q2.blk hj.ib1 n6⟩, (hc.mono (fun _ _ e => .inr e)).trans (q2.mono (fun _ _ e => .inl e))⟩
theorem all_fun_1 (w : World) (g : FR) (kl ke kj kx i0 i1 : Nat) (left a0 a1 v : Int) (h : J2 w g kl ke kj kx i0 i1 left a0 a1) (hl : 2 ≤ left ∧ left ≤ 10) :
    Calls Tryz.prog 57 #[.pointer none, .int .i64 v, .nilIface, .pointer (some ⟨kx, 0, none⟩), .pointer (some ⟨i1, 0, none⟩)] w fun e w' => e = .returned (.tuple #[]) ∧ J2 w' g kl ke kj kx i0 i1 (left - 1) a0 v ∧ Chg (fun q => q = kl ∨ q = ke) w w' := by
  have c1 := h.box.cellAt 0 (v := .pointer (some ⟨kj, 0, none⟩)) rfl
  have c2 := h.joint.cellAt 2 (v := .slice (some ⟨ke, 0, none⟩) 2 2) rfl
  have c3 := h.ib1.cellAt 0 (v := .int .i64 1) rfl
  have c4 := h.ends.cellAt 2 (v := .int .i64 a1) rfl
  have c5 := h.ends.cellAt 3 (v := .nilIface) rfl
  have z4 := h.ends.free 2
  have z5 := h.ends.free 3
  have H := Lib.hid h
  clear h
  go_enter Tryz.func57, Tryz.ntmps57
  go_wp2_with fail
  go_region
  have hj : J2 (((w.setCell ⟨ke, 2, none⟩ (.int .i64 v)).setCell ⟨ke, 3, none⟩ .nilIface).drew) g kl ke kj kx i0 i1 left a0 v := by
    have h := H.out
    have n1 := h.joint.ne h.ends (by decide)
    have n2 := Blk.ne h.left h.ends (by decide)
    have n3 := h.box.ne h.ends (by decide)
    have n4 := h.ib0.ne h.ends (by decide)
    have n5 := h.ib1.ne h.ends (by decide)
    have hc : Chg (· = ke) w (((w.setCell ⟨ke, 2, none⟩ (.int .i64 v)).setCell ⟨ke, 3, none⟩ .nilIface).drew) := (((Chg.refl (· = ke) w).setCell (p := ⟨ke, 2, none⟩) (.inl rfl) _).setCell (p := ⟨ke, 3, none⟩) (.inl rfl) _).drew
    exact ⟨hc.blk h.joint n1, h.left.chg hc n2, ((h.ends.set 2 (.int .i64 v)).set 3 .nilIface).drew, hc.blk h.box n3, hc.blk h.ib0 n4, hc.blk h.ib1 n5⟩
  have hc : Chg (· = ke) w (((w.setCell ⟨ke, 2, none⟩ (.int .i64 v)).setCell ⟨ke, 3, none⟩ .nilIface).drew) := (((Chg.refl (· = ke) w).setCell (p := ⟨ke, 2, none⟩) (.inl rfl) _).setCell (p := ⟨ke, 3, none⟩) (.inl rfl) _).drew
  generalize ((w.setCell ⟨ke, 2, none⟩ (.int .i64 v)).setCell ⟨ke, 3, none⟩ .nilIface).drew = W at *
  clear c1 c2 c3 c4 c5 z4 z5
  have c1 := hj.box.cellAt 0 (v := .pointer (some ⟨kj, 0, none⟩)) rfl
  have c2 := hj.joint.cellAt 1 (v := .pointer (some ⟨kl, 0, none⟩)) rfl
  have HJ := Lib.hid (And.intro hj hc)
  have hw : wrap64 (left + -1) = left - 1 := by unfold wrap64; omega
  have c3 := add_ok W kl left (-1) hj.left
  rw [hw] at c3
  have C3 := Lib.hid c3
  have hne : ((left - 1 : Int) == 0) = false := beq_eq_false_iff_ne.2 (by omega)
  clear hj hc c3 hw H
  go_wp2_with fail
  refine C3.out.mono ?_
  rintro e w2 ⟨rfl, h2, q2⟩
  have HE := Lib.hid (And.intro h2 q2)
  clear h2 q2 C3 c1 c2
  go_wp2_with fail
  go_end0
  obtain ⟨h2, q2⟩ := HE.out
  obtain ⟨hj, hc⟩ := HJ.out
  have n1 := hj.joint.ne hj.left (by decide)
  have n3 := hj.ends.ne hj.left (by decide)
  have n4 := hj.box.ne hj.left (by decide)
  have n5 := hj.ib0.ne hj.left (by decide)
  have n6 := hj.ib1.ne hj.left (by decide)
  exact ⟨rfl, ⟨q2.blk hj.joint n1, h2, q2.blk hj.ends n3, q2.blk hj.box n4, q2.blk hj.ib0 n5, q2.blk hj.ib1 n6⟩, (hc.mono (fun _ _ e => .inr e)).trans (q2.mono (fun _ _ e => .inl e))⟩
theorem all_last_0 (w : World) (g : FR) (kl ke kj kx i0 i1 : Nat) (a0 a1 v : Int) (h : J2 w g kl ke kj kx i0 i1 1 a0 a1) (hg : FutF w g []) (hGl : ¬ g.has kl) (hGe : ¬ g.has ke) :
    Calls Tryz.prog 57 #[.pointer none, .int .i64 v, .nilIface, .pointer (some ⟨kx, 0, none⟩), .pointer (some ⟨i0, 0, none⟩)] w fun e w' => e = .returned (.tuple #[]) ∧ FutV w' g 2 ∧ J2 w' g kl ke kj kx i0 i1 0 v a1 ∧ Chg (fun q => q = kl ∨ q = ke ∨ g.has q) w w' := by
  have c1 := h.box.cellAt 0 (v := .pointer (some ⟨kj, 0, none⟩)) rfl
  have c2 := h.joint.cellAt 2 (v := .slice (some ⟨ke, 0, none⟩) 2 2) rfl
  have c3 := h.ib0.cellAt 0 (v := .int .i64 0) rfl
  have c4 := h.ends.cellAt 0 (v := .int .i64 a0) rfl
  have c5 := h.ends.cellAt 1 (v := .nilIface) rfl
  have z4 := h.ends.free 0
  have z5 := h.ends.free 1
  have H := Lib.hid h
  have HG := Lib.hid hg
  clear h hg
  go_enter Tryz.func57, Tryz.ntmps57
  go_wp2_with fail
  go_region
  have hj : J2 (((w.setCell ⟨ke, 0, none⟩ (.int .i64 v)).setCell ⟨ke, 1, none⟩ .nilIface).drew) g kl ke kj kx i0 i1 1 v a1 := by
    have h := H.out
    have n1 := h.joint.ne h.ends (by decide)
    have n2 := Blk.ne h.left h.ends (by decide)
    have n3 := h.box.ne h.ends (by decide)
    have n4 := h.ib0.ne h.ends (by decide)
    have n5 := h.ib1.ne h.ends (by decide)
    have hc : Chg (· = ke) w (((w.setCell ⟨ke, 0, none⟩ (.int .i64 v)).setCell ⟨ke, 1, none⟩ .nilIface).drew) := (((Chg.refl (· = ke) w).setCell (p := ⟨ke, 0, none⟩) (.inl rfl) _).setCell (p := ⟨ke, 1, none⟩) (.inl rfl) _).drew
    exact ⟨hc.blk h.joint n1, h.left.chg hc n2, ((h.ends.set 0 (.int .i64 v)).set 1 .nilIface).drew, hc.blk h.box n3, hc.blk h.ib0 n4, hc.blk h.ib1 n5⟩
  have hc : Chg (· = ke) w (((w.setCell ⟨ke, 0, none⟩ (.int .i64 v)).setCell ⟨ke, 1, none⟩ .nilIface).drew) := (((Chg.refl (· = ke) w).setCell (p := ⟨ke, 0, none⟩) (.inl rfl) _).setCell (p := ⟨ke, 1, none⟩) (.inl rfl) _).drew
  generalize ((w.setCell ⟨ke, 0, none⟩ (.int .i64 v)).setCell ⟨ke, 1, none⟩ .nilIface).drew = W at *
  clear c1 c2 c3 c4 c5 z4 z5
  have c1 := hj.box.cellAt 0 (v := .pointer (some ⟨kj, 0, none⟩)) rfl
  have c2 := hj.joint.cellAt 1 (v := .pointer (some ⟨kl, 0, none⟩)) rfl
  have HJ := Lib.hid (And.intro hj hc)
  have hw : wrap64 (1 + -1) = 0 := by kernel_rfl
  have c3 := add_ok W kl 1 (-1) hj.left
  rw [hw] at c3
  have C3 := Lib.hid c3
  have HG1 := Lib.hid (HG.out.chg hc (fun q hq e => hGe (e ▸ hq)))
  clear hj hc c3 hw H HG
  go_wp2_with fail
  refine C3.out.mono ?_
  rintro e w2 ⟨rfl, h2, q2⟩
  have hj3 : J2 w2 g kl ke kj kx i0 i1 0 v a1 := by
    obtain ⟨hj, hc⟩ := HJ.out
    have n1 := hj.joint.ne hj.left (by decide)
    have n3 := hj.ends.ne hj.left (by decide)
    have n4 := hj.box.ne hj.left (by decide)
    have n5 := hj.ib0.ne hj.left (by decide)
    have n6 := hj.ib1.ne hj.left (by decide)
    exact ⟨q2.blk hj.joint n1, h2, q2.blk hj.ends n3, q2.blk hj.box n4, q2.blk hj.ib0 n5, q2.blk hj.ib1 n6⟩
  have hc3 : Chg (fun q => q = kl ∨ q = ke ∨ g.has q) w w2 := (HJ.out.2.mono (fun _ _ e => .inr (.inl e))).trans (q2.mono (fun _ _ e => .inl e))
  have hg3 := HG1.out.chg q2 (fun q hq e => hGl (e ▸ hq))
  have c4 := hj3.box.cellAt 0 (v := .pointer (some ⟨kj, 0, none⟩)) rfl
  have HE := Lib.hid (And.intro hj3 (And.intro hc3 hg3))
  clear h2 q2 C3 c1 c2 hj3 hc3 hg3
  go_wp2_with fail
  refine (over_two _ _ _ _ _ _ _ _ _ _ _ HE.out.1 HE.out.2.2).mono ?_
  rintro e w3 ⟨rfl, h3, q3⟩
  have HF := Lib.hid (And.intro h3 q3)
  clear h3 q3 c4
  go_wp2_with fail
  go_end0
  obtain ⟨h3, q3⟩ := HF.out
  obtain ⟨hj, hc, hg⟩ := HE.out
  exact ⟨rfl, h3, ⟨q3.blk hj.joint (hg.ne_blk hj.joint (by decide) (by decide) (by decide) (by decide)), hj.left.chg q3 hGl, q3.blk hj.ends (hg.ne_blk hj.ends (by decide) (by decide) (by decide) (by decide)), q3.blk hj.box (hg.ne_blk hj.box (by decide) (by decide) (by decide) (by decide)), q3.blk hj.ib0 (hg.ne_blk hj.ib0 (by decide) (by decide) (by decide) (by decide)), q3.blk hj.ib1 (hg.ne_blk hj.ib1 (by decide) (by decide) (by decide) (by decide))⟩, hc.trans (q3.mono (fun _ _ e => .inr (.inr e)))⟩
theorem all_last_1 (w : World) (g : FR) (kl ke kj kx i0 i1 : Nat) (a0 a1 v : Int) (h : J2 w g kl ke kj kx i0 i1 1 a0 a1) (hg : FutF w g []) (hGl : ¬ g.has kl) (hGe : ¬ g.has ke) :
    Calls Tryz.prog 57 #[.pointer none, .int .i64 v, .nilIface, .pointer (some ⟨kx, 0, none⟩), .pointer (some ⟨i1, 0, none⟩)] w fun e w' => e = .returned (.tuple #[]) ∧ FutV w' g 2 ∧ J2 w' g kl ke kj kx i0 i1 0 a0 v ∧ Chg (fun q => q = kl ∨ q = ke ∨ g.has q) w w' := by
  have c1 := h.box.cellAt 0 (v := .pointer (some ⟨kj, 0, none⟩)) rfl
  have c2 := h.joint.cellAt 2 (v := .slice (some ⟨ke, 0, none⟩) 2 2) rfl
  have c3 := h.ib1.cellAt 0 (v := .int .i64 1) rfl
  have c4 := h.ends.cellAt 2 (v := .int .i64 a1) rfl
  have c5 := h.ends.cellAt 3 (v := .nilIface) rfl
  have z4 := h.ends.free 2
  have z5 := h.ends.free 3
  have H := Lib.hid h
  have HG := Lib.hid hg
  clear h hg
  go_enter Tryz.func57, Tryz.ntmps57
  go_wp2_with fail
  go_region
  have hj : J2 (((w.setCell ⟨ke, 2, none⟩ (.int .i64 v)).setCell ⟨ke, 3, none⟩ .nilIface).drew) g kl ke kj kx i0 i1 1 a0 v := by
    have h := H.out
    have n1 := h.joint.ne h.ends (by decide)
    have n2 := Blk.ne h.left h.ends (by decide)
    have n3 := h.box.ne h.ends (by decide)
    have n4 := h.ib0.ne h.ends (by decide)
    have n5 := h.ib1.ne h.ends (by decide)
    have hc : Chg (· = ke) w (((w.setCell ⟨ke, 2, none⟩ (.int .i64 v)).setCell ⟨ke, 3, none⟩ .nilIface).drew) := (((Chg.refl (· = ke) w).setCell (p := ⟨ke, 2, none⟩) (.inl rfl) _).setCell (p := ⟨ke, 3, none⟩) (.inl rfl) _).drew
    exact ⟨hc.blk h.joint n1, h.left.chg hc n2, ((h.ends.set 2 (.int .i64 v)).set 3 .nilIface).drew, hc.blk h.box n3, hc.blk h.ib0 n4, hc.blk h.ib1 n5⟩
  have hc : Chg (· = ke) w (((w.setCell ⟨ke, 2, none⟩ (.int .i64 v)).setCell ⟨ke, 3, none⟩ .nilIface).drew) := (((Chg.refl (· = ke) w).setCell (p := ⟨ke, 2, none⟩) (.inl rfl) _).setCell (p := ⟨ke, 3, none⟩) (.inl rfl) _).drew
  generalize ((w.setCell ⟨ke, 2, none⟩ (.int .i64 v)).setCell ⟨ke, 3, none⟩ .nilIface).drew = W at *
  clear c1 c2 c3 c4 c5 z4 z5
  have c1 := hj.box.cellAt 0 (v := .pointer (some ⟨kj, 0, none⟩)) rfl
  have c2 := hj.joint.cellAt 1 (v := .pointer (some ⟨kl, 0, none⟩)) rfl
  have HJ := Lib.hid (And.intro hj hc)
  have hw : wrap64 (1 + -1) = 0 := by kernel_rfl
  have c3 := add_ok W kl 1 (-1) hj.left
  rw [hw] at c3
  have C3 := Lib.hid c3
  have HG1 := Lib.hid (HG.out.chg hc (fun q hq e => hGe (e ▸ hq)))
  clear hj hc c3 hw H HG
  go_wp2_with fail
  refine C3.out.mono ?_
  rintro e w2 ⟨rfl, h2, q2⟩
  have hj3 : J2 w2 g kl ke kj kx i0 i1 0 a0 v := by
    obtain ⟨hj, hc⟩ := HJ.out
    have n1 := hj.joint.ne hj.left (by decide)
    have n3 := hj.ends.ne hj.left (by decide)
    have n4 := hj.box.ne hj.left (by decide)
    have n5 := hj.ib0.ne hj.left (by decide)
    have n6 := hj.ib1.ne hj.left (by decide)
    exact ⟨q2.blk hj.joint n1, h2, q2.blk hj.ends n3, q2.blk hj.box n4, q2.blk hj.ib0 n5, q2.blk hj.ib1 n6⟩
  have hc3 : Chg (fun q => q = kl ∨ q = ke ∨ g.has q) w w2 := (HJ.out.2.mono (fun _ _ e => .inr (.inl e))).trans (q2.mono (fun _ _ e => .inl e))
  have hg3 := HG1.out.chg q2 (fun q hq e => hGl (e ▸ hq))
  have c4 := hj3.box.cellAt 0 (v := .pointer (some ⟨kj, 0, none⟩)) rfl
  have HE := Lib.hid (And.intro hj3 (And.intro hc3 hg3))
  clear h2 q2 C3 c1 c2 hj3 hc3 hg3
  go_wp2_with fail
  refine (over_two _ _ _ _ _ _ _ _ _ _ _ HE.out.1 HE.out.2.2).mono ?_
  rintro e w3 ⟨rfl, h3, q3⟩
  have HF := Lib.hid (And.intro h3 q3)
  clear h3 q3 c4
  go_wp2_with fail
  go_end0
  obtain ⟨h3, q3⟩ := HF.out
  obtain ⟨hj, hc, hg⟩ := HE.out
  exact ⟨rfl, h3, ⟨q3.blk hj.joint (hg.ne_blk hj.joint (by decide) (by decide) (by decide) (by decide)), hj.left.chg q3 hGl, q3.blk hj.ends (hg.ne_blk hj.ends (by decide) (by decide) (by decide) (by decide)), q3.blk hj.box (hg.ne_blk hj.box (by decide) (by decide) (by decide) (by decide)), q3.blk hj.ib0 (hg.ne_blk hj.ib0 (by decide) (by decide) (by decide) (by decide)), q3.blk hj.ib1 (hg.ne_blk hj.ib1 (by decide) (by decide) (by decide) (by decide))⟩, hc.trans (q3.mono (fun _ _ e => .inr (.inr e)))⟩
end Go.Proofs.YtgljjgmfhememaaGreatDoor
