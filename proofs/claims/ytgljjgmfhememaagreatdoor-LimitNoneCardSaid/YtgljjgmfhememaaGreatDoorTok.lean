/- list.List of a token's entries with a nil thread: New, the first Add, Close of one function. Conditions: none. -/
import Derived.Test.YtgljjgmfhememaaGreatDoorFutC
namespace Go.Proofs.YtgljjgmfhememaaGreatDoor
open Go Go.RowKit
set_option maxRecDepth 100000
set_option maxHeartbeats 2000000
def epl0 : Array Value := ((List.replicate 65 [Value.pointer none, .nilFunc, .int .i64 0]).flatten).toArray
theorem eplmake (w : World) : (Instr.makeSlice 243 (.int .i64 (IntKind.i64.wrap 65)) (.int .i64 (IntKind.i64.wrap 65))).run Tryz.prog w = .ok (.slice (some ⟨w.heap.size, 0, none⟩) 65 65) (w.alloc (.cells epl0 284)) := by kernel_rfl
structure EList (w : World) (b lb hb pb : Nat) (last head : Int) (pl : Array Value) : Prop where
  blk : Blk w b #[.pointer (some ⟨lb, 0, none⟩), .pointer (some ⟨hb, 0, none⟩), .slice (some ⟨pb, 0, none⟩) 65 65] 245
  clast : CellAt w lb last
  chead : CellAt w hb head
  places : Blk w pb pl 284
  size : pl.size = 195
  ne : lb ≠ hb
theorem EList.chg {S : Nat → Prop} {w w' : World} {b lb hb pb : Nat} {last head : Int} {pl : Array Value} (h : EList w b lb hb pb last head pl) (hc : Chg S w w') (h1 : ¬ S b) (h2 : ¬ S lb) (h3 : ¬ S hb) (h4 : ¬ S pb) : EList w' b lb hb pb last head pl :=
  ⟨hc.blk h.blk h1, hc.blk h.clast h2, hc.blk h.chead h3, hc.blk h.places h4, h.size, h.ne⟩
theorem elist_made (w : World) (b : Nat) (cs : Array Value) (hb : Nat) (h : Blk w b cs 245) (h1 : cs[1]? = some (.pointer (some ⟨hb, 0, none⟩))) : Calls Tryz.prog 169 #[.pointer (some ⟨b, 0, none⟩)] w fun e w' => e = .returned (.bool true) ∧ w = w' := by
  have c1 := h.cellAt 1 h1
  clear h h1
  go_enter Tryz.func169, Tryz.ntmps169
  go_wp2
  go_ret
  exact ⟨rfl, rfl⟩
def ENew (w : World) (e : Ending) (w' : World) : Prop := ∃ b lb hb pb, e = .returned (.pointer (some ⟨b, 0, none⟩)) ∧ EList w' b lb hb pb 0 0 epl0 ∧ w.heap.size ≤ b ∧ w.heap.size ≤ lb ∧ w.heap.size ≤ hb ∧ w.heap.size ≤ pb ∧ Same w w'
theorem ENew.done {w W : World} {b lb hb pb : Nat} (h1 : Blk W b #[.pointer (some ⟨lb, 0, none⟩), .pointer (some ⟨hb, 0, none⟩), .slice (some ⟨pb, 0, none⟩) 65 65] 245) (h2 : CellAt W lb 0) (h3 : CellAt W hb 0) (h4 : Blk W pb epl0 284) (h5 : lb ≠ hb ∧ w.heap.size ≤ b ∧ w.heap.size ≤ lb ∧ w.heap.size ≤ hb ∧ w.heap.size ≤ pb) (h6 : Same w W) : ENew w (.returned (.pointer (some ⟨b, 0, none⟩))) W :=
  ⟨b, lb, hb, pb, rfl, ⟨h1, h2, h3, h4, by kernel_rfl, h5.1⟩, h5.2.1, h5.2.2.1, h5.2.2.2.1, h5.2.2.2.2, h6⟩
theorem elist_new (w : World) : Calls Tryz.prog 67 #[.int .i64 64] w (ENew w) := by
  have hm := eplmake
  go_enter Tryz.func67, Tryz.ntmps67
  go_wp2_with fail
  go_region_with (go_at_call 29; refine (cell_new _ _).mono ?_; rintro e w' ⟨rfl, rfl⟩)
  all_goals go_wp2_with fail
  all_goals go_ret
  all_goals refine ENew.done (Blk.drew (Blk.neww (by simp) _ _)) ?_ ?_ ?_ ?_ ?_
  all_goals first | omega | skip
  all_goals first | (exact Chg.drew (Chg.alloc (Chg.alloc (Chg.alloc (Chg.alloc (Chg.refl _ _) _) _) _) _)) | skip
  all_goals (try unfold CellAt)
  all_goals (refine Blk.drew ?_; repeat' (first | (refine Blk.neww ?_ _ _; simp; done) | refine Blk.alloc ?_ _))
/-- The first Add: x: the child, f: the function. -/
theorem elist_add (w : World) (b lb hb pb : Nat) (pl : Array Value) (x f : Value) (hx : (∃ p, x = .pointer p) ∧ (f = .nilFunc ∨ ∃ F cap, f = .func (.func F) #[] cap)) (h : EList w b lb hb pb 0 0 pl) :
    Calls Tryz.prog 109 #[.pointer (some ⟨b, 0, none⟩), .pointer none, .agg #[x, f]] w fun e w' => e = .returned (.tuple #[.int .i64 1, .int .i64 0]) ∧ EList w' b lb hb pb 1 1 (((pl.setIfInBounds 3 x).setIfInBounds 4 f).setIfInBounds 5 (.int .i64 0)) ∧ Chg (fun k => k = lb ∨ k = hb ∨ k = pb) w w' := by
  have hne := h.ne
  have n1 : b ≠ lb := h.blk.ne h.clast (by decide)
  have n2 : b ≠ hb := h.blk.ne h.chead (by decide)
  have n3 : b ≠ pb := h.blk.ne h.places (by decide)
  have n4 : lb ≠ pb := h.clast.ne h.places (by decide)
  have n5 : hb ≠ pb := h.chead.ne h.places (by decide)
  have hsz := h.size
  have hA : EList (w.alloc (.cells #[x, f] 146)) b lb hb pb 0 0 pl := h.chg (S := fun _ => False) ((Chg.refl _ _).alloc _) (fun x => x) (fun x => x) (fun x => x) (fun x => x)
  have sA : Same w (w.alloc (.cells #[x, f] 146)) := (Chg.refl _ _).alloc _
  have hT : Blk (w.alloc (.cells #[x, f] 146)) w.heap.size #[x, f] 146 := Blk.new _ _ _
  have l1 := h.clast.lt
  have l2 := h.chead.lt
  have l3 := h.places.lt
  have l4 := h.blk.lt
  have c0 := hA.blk.cellAt 0 (v := .pointer (some ⟨lb, 0, none⟩)) rfl
  have c1 := hA.blk.cellAt 1 (v := .pointer (some ⟨hb, 0, none⟩)) rfl
  have HX := Lib.hid hx
  clear h hx
  go_enter Tryz.func109, Tryz.ntmps109
  go_wp2_with fail
  generalize w.alloc (.cells #[x, f] 146) = W at *
  generalize hr : w.heap.size = r at *
  have HR := Lib.hid hr
  have HA := Lib.hid (And.intro hA (And.intro sA hT))
  clear hr hA sA hT
  refine (elist_made _ _ _ _ HA.out.1.blk rfl).mono ?_
  rintro e _ ⟨rfl, rfl⟩
  go_wp2_with fail
  refine (cell_load_at _ _ _ HA.out.1.chead).mono ?_
  rintro e _ ⟨rfl, rfl⟩
  go_wp2_with fail
  refine (add_ok _ _ _ _ HA.out.1.clast).mono ?_
  rintro e w1 ⟨rfl, g1, g2⟩
  have hb1 := g2.blk HA.out.1.blk n1
  have hh1 : CellAt w1 hb 0 := g2.blk HA.out.1.chead (Ne.symm hne)
  have hp1 := g2.blk HA.out.1.places (Ne.symm n4)
  have ht1 := g2.blk HA.out.2.2 (by omega)
  have k1 : wrap64 (0 + 1) = 1 := by kernel_rfl
  rw [k1] at g1 ⊢
  clear c0 c1
  have c0 := hb1.cellAt 0 (v := .pointer (some ⟨lb, 0, none⟩)) rfl
  have c1 := hb1.cellAt 1 (v := .pointer (some ⟨hb, 0, none⟩)) rfl
  have c2 := hb1.cellAt 2 (v := .slice (some ⟨pb, 0, none⟩) 65 65) rfl
  have t0 := ht1.cellAt 0 (v := x) rfl
  have t1 := ht1.cellAt 1 (v := f) rfl
  have s0 := hp1.cellAt 3 (v := pl[3]'(by omega)) (Array.getElem?_eq_getElem (by omega))
  have s1 := (hp1.set 3 x).cellAt 4 (v := pl[4]'(by omega)) (by rw [Array.getElem?_setIfInBounds_ne (by omega)]; exact Array.getElem?_eq_getElem (by omega))
  have s2 := ((hp1.set 3 x).set 4 f).cellAt 5 (v := pl[5]'(by omega)) (by rw [Array.getElem?_setIfInBounds_ne (by omega), Array.getElem?_setIfInBounds_ne (by omega)]; exact Array.getElem?_eq_getElem (by omega))
  have z0 := hp1.free 3
  have z1 := (hp1.set 3 x).free 4
  have z2 := ((hp1.set 3 x).set 4 f).free 5
  have H1 := Lib.hid (And.intro hb1 (And.intro hh1 (And.intro hp1 (And.intro g1 g2))))
  clear hb1 hh1 hp1 ht1 g1 g2
  go_wp2_with fail
  refine wp_loop_rounds 1 ?_; rw [rounds_succ]
  obtain ⟨⟨p, rfl⟩, hf⟩ := HX.out
  have hW : EList ((((w1.setCell ⟨pb, 3, none⟩ (.pointer p)).setCell ⟨pb, 4, none⟩ f).setCell ⟨pb, 5, none⟩ (.int .i64 0)).drew) b lb hb pb 1 0 (((pl.setIfInBounds 3 (.pointer p)).setIfInBounds 4 f).setIfInBounds 5 (.int .i64 0)) ∧ Chg (fun k => k = lb ∨ k = hb ∨ k = pb) w ((((w1.setCell ⟨pb, 3, none⟩ (.pointer p)).setCell ⟨pb, 4, none⟩ f).setCell ⟨pb, 5, none⟩ (.int .i64 0)).drew) := by
    obtain ⟨hb1, hh1, hp1, g1, g2⟩ := H1.out
    have hc : Chg (· = pb) w1 ((((w1.setCell ⟨pb, 3, none⟩ (.pointer p)).setCell ⟨pb, 4, none⟩ f).setCell ⟨pb, 5, none⟩ (.int .i64 0)).drew) := ((((Chg.refl (· = pb) w1).setCell (p := ⟨pb, 3, none⟩) (.inl rfl) _).setCell (p := ⟨pb, 4, none⟩) (.inl rfl) _).setCell (p := ⟨pb, 5, none⟩) (.inl rfl) _).drew
    exact ⟨⟨hc.blk hb1 n3, g1.chg hc n4, hh1.chg hc n5, (((hp1.set 3 _).set 4 _).set 5 _).drew, by simpa using hsz, hne⟩, ((HA.out.2.1.mono (fun _ _ x => x.elim)).trans (g2.mono (fun _ _ e => .inl e))).trans (hc.mono (fun _ _ e => .inr (.inr e)))⟩
  have HWW := Lib.hid hW
  clear hW
  rcases hf with rfl | ⟨F, cap, rfl⟩
  · go_wp2_with fail
    go_region
    have hW := HWW.out
    generalize (((w1.setCell ⟨pb, 3, none⟩ (.pointer p)).setCell ⟨pb, 4, none⟩ .nilFunc).setCell ⟨pb, 5, none⟩ (.int .i64 0)).drew = w2 at *
    clear HWW c0 c1 c2 t0 t1 s0 s1 s2 z0 z1 z2
    have c1 := hW.1.blk.cellAt 1 (v := .pointer (some ⟨hb, 0, none⟩)) rfl
    have HW := Lib.hid hW
    clear hW
    go_wp2_with fail
    refine (cas_ok _ _ _ _ HW.out.1.chead).mono ?_
    rintro e w3 ⟨rfl, k1, k2⟩
    have HK := Lib.hid (And.intro k1 k2)
    clear k1 k2
    go_wp2_with fail
    go_ret2
    obtain ⟨k1, k2⟩ := HK.out
    obtain ⟨he, hc⟩ := HW.out
    exact ⟨rfl, ⟨k2.blk he.blk n2, k2.blk he.clast hne, k1, k2.blk he.places (Ne.symm n5), by simpa using hsz, hne⟩, hc.trans (k2.mono (fun _ _ e => .inr (.inl e)))⟩
  · go_wp2_with fail
    go_region
    have hW := HWW.out
    generalize (((w1.setCell ⟨pb, 3, none⟩ (.pointer p)).setCell ⟨pb, 4, none⟩ (.func (.func F) #[] cap)).setCell ⟨pb, 5, none⟩ (.int .i64 0)).drew = w2 at *
    clear HWW c0 c1 c2 t0 t1 s0 s1 s2 z0 z1 z2
    have c1 := hW.1.blk.cellAt 1 (v := .pointer (some ⟨hb, 0, none⟩)) rfl
    have HW := Lib.hid hW
    clear hW
    go_wp2_with fail
    refine (cas_ok _ _ _ _ HW.out.1.chead).mono ?_
    rintro e w3 ⟨rfl, k1, k2⟩
    have HK := Lib.hid (And.intro k1 k2)
    clear k1 k2
    go_wp2_with fail
    go_ret2
    obtain ⟨k1, k2⟩ := HK.out
    obtain ⟨he, hc⟩ := HW.out
    exact ⟨rfl, ⟨k2.blk he.blk n2, k2.blk he.clast hne, k1, k2.blk he.places (Ne.symm n5), by simpa using hsz, hne⟩, hc.trans (k2.mono (fun _ _ e => .inr (.inl e)))⟩
end Go.Proofs.YtgljjgmfhememaaGreatDoor
