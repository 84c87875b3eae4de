/- list.List of functions, and futures: the second and the third function that hang on. Conditions: none. -/
import Derived.Test.YtgljjgmfhememaaGreatDoorFut
namespace Go.Proofs.YtgljjgmfhememaaGreatDoor
open Go Go.RowKit
set_option maxRecDepth 100000
set_option maxHeartbeats 1000000
theorem flist_add_1 (w : World) (b lb hb pb : Nat) (pl : Array Value) (F : Nat) (cap : Array Value) (h : FList w b lb hb pb 1 1 pl) :
    Calls Tryz.prog 129 #[.pointer (some ⟨b, 0, none⟩), .pointer none, .func (.func F) #[] cap] w fun e w' => e = .returned (.tuple #[.int .i64 2, .int .i64 0]) ∧ FList w' b lb hb pb 2 2 ((pl.setIfInBounds 4 (.func (.func F) #[] cap)).setIfInBounds 5 (.int .i64 1)) ∧ Chg (fun k => k = lb ∨ k = hb ∨ k = pb) w w' := by
  have hne := h.ne
  have n1 : b ≠ lb := h.blk.ne h.clast (by decide)
  have n2 : b ≠ hb := h.blk.ne h.chead (by decide)
  have n3 : b ≠ pb := h.blk.ne h.places (by decide)
  have n4 : lb ≠ pb := h.clast.ne h.places (by decide)
  have n5 : hb ≠ pb := h.chead.ne h.places (by decide)
  have c0 := h.blk.cellAt 0 (v := .pointer (some ⟨lb, 0, none⟩)) rfl
  have c1 := h.blk.cellAt 1 (v := .pointer (some ⟨hb, 0, none⟩)) rfl
  have hsz := h.size
  obtain ⟨hb0, hl0, hh0, hp0, _, _⟩ := h
  go_enter Tryz.func129, Tryz.ntmps129
  go_wp2_with (first | (go_at_call 183; refine (flist_made _ _ _ _ hb0 rfl).mono ?_; rintro e w' ⟨rfl, rfl⟩) | (go_at_call 66; refine (cell_load_at _ _ _ hh0).mono ?_; rintro e w' ⟨rfl, rfl⟩))
  refine (add_ok _ _ _ _ hl0).mono ?_
  rintro e w1 ⟨rfl, g1, g2⟩
  have hb1 := g2.blk hb0 n1
  have hh1 : CellAt w1 hb 1 := g2.blk hh0 (Ne.symm hne)
  have hp1 := g2.blk hp0 (Ne.symm n4)
  have k1 : wrap64 (1 + 1) = 2 := by kernel_rfl
  rw [k1] at g1 ⊢
  clear hb0 hh0 hp0 hl0 c0 c1
  have c0 := hb1.cellAt 0 (v := .pointer (some ⟨lb, 0, none⟩)) rfl
  have c1 := hb1.cellAt 1 (v := .pointer (some ⟨hb, 0, none⟩)) rfl
  have c2 := hb1.cellAt 2 (v := .slice (some ⟨pb, 0, none⟩) 65 65) rfl
  have s0 := hp1.cellAt 4 (v := pl[4]'(by omega)) (Array.getElem?_eq_getElem (by omega))
  have s1 := (hp1.set 4 (.func (.func F) #[] cap)).cellAt 5 (v := pl[5]'(by omega)) (by rw [Array.getElem?_setIfInBounds_ne (by omega)]; exact Array.getElem?_eq_getElem (by omega))
  have z0 := hp1.free 4
  have z1 := (hp1.set 4 (.func (.func F) #[] cap)).free 5
  go_wp2_with fail
  refine wp_loop_rounds 1 ?_; rw [rounds_succ]
  go_wp2_with fail
  have hb2 := (hb1.set_other (a := ⟨pb, 4, none⟩) (Ne.symm n3) (.func (.func F) #[] cap)).set_other (a := ⟨pb, 5, none⟩) (Ne.symm n3) (.int .i64 1)
  have hp2 := (hp1.set 4 (.func (.func F) #[] cap)).set 5 (.int .i64 1)
  have hh2 := (hh1.set_other (a := ⟨pb, 4, none⟩) (Ne.symm n5) (.func (.func F) #[] cap)).set_other (a := ⟨pb, 5, none⟩) (Ne.symm n5) (.int .i64 1)
  have hl2 := (g1.set_other (a := ⟨pb, 4, none⟩) (Ne.symm n4) (.func (.func F) #[] cap)).set_other (a := ⟨pb, 5, none⟩) (Ne.symm n4) (.int .i64 1)
  have hc2 : Chg (fun k => k = lb ∨ k = hb ∨ k = pb) w1 ((w1.setCell ⟨pb, 4, none⟩ (.func (.func F) #[] cap)).setCell ⟨pb, 5, none⟩ (.int .i64 1)) := ((Chg.refl _ _).setCell (.inl (.inr (.inr rfl))) _).setCell (.inl (.inr (.inr rfl))) _
  generalize (w1.setCell ⟨pb, 4, none⟩ (.func (.func F) #[] cap)).setCell ⟨pb, 5, none⟩ (.int .i64 1) = w2 at *
  clear s0 s1 z0 z1 c0 c1 c2 hp1 hb1 hh1 
  have c1 := hb2.cellAt 1 (v := .pointer (some ⟨hb, 0, none⟩)) rfl
  go_wp2_with fail
  refine (cas_ok _ _ _ _ hh2).mono ?_
  rintro e w3 ⟨rfl, k1, k2⟩
  go_wp2_with fail
  go_ret2
  refine ⟨rfl, ⟨k2.blk hb2 n2, k2.blk hl2 hne, k1, k2.blk hp2 (Ne.symm n5), by simpa using hsz, hne⟩, ?_⟩
  exact ((g2.mono (fun _ _ e => .inl e)).trans hc2).trans' k2 (fun _ _ e => .inr (.inl e))
theorem flist_add_2 (w : World) (b lb hb pb : Nat) (pl : Array Value) (F : Nat) (cap : Array Value) (h : FList w b lb hb pb 2 2 pl) :
    Calls Tryz.prog 129 #[.pointer (some ⟨b, 0, none⟩), .pointer none, .func (.func F) #[] cap] w fun e w' => e = .returned (.tuple #[.int .i64 3, .int .i64 0]) ∧ FList w' b lb hb pb 3 3 ((pl.setIfInBounds 6 (.func (.func F) #[] cap)).setIfInBounds 7 (.int .i64 2)) ∧ Chg (fun k => k = lb ∨ k = hb ∨ k = pb) w w' := by
  have hne := h.ne
  have n1 : b ≠ lb := h.blk.ne h.clast (by decide)
  have n2 : b ≠ hb := h.blk.ne h.chead (by decide)
  have n3 : b ≠ pb := h.blk.ne h.places (by decide)
  have n4 : lb ≠ pb := h.clast.ne h.places (by decide)
  have n5 : hb ≠ pb := h.chead.ne h.places (by decide)
  have c0 := h.blk.cellAt 0 (v := .pointer (some ⟨lb, 0, none⟩)) rfl
  have c1 := h.blk.cellAt 1 (v := .pointer (some ⟨hb, 0, none⟩)) rfl
  have hsz := h.size
  obtain ⟨hb0, hl0, hh0, hp0, _, _⟩ := h
  go_enter Tryz.func129, Tryz.ntmps129
  go_wp2_with (first | (go_at_call 183; refine (flist_made _ _ _ _ hb0 rfl).mono ?_; rintro e w' ⟨rfl, rfl⟩) | (go_at_call 66; refine (cell_load_at _ _ _ hh0).mono ?_; rintro e w' ⟨rfl, rfl⟩))
  refine (add_ok _ _ _ _ hl0).mono ?_
  rintro e w1 ⟨rfl, g1, g2⟩
  have hb1 := g2.blk hb0 n1
  have hh1 : CellAt w1 hb 2 := g2.blk hh0 (Ne.symm hne)
  have hp1 := g2.blk hp0 (Ne.symm n4)
  have k1 : wrap64 (2 + 1) = 3 := by kernel_rfl
  rw [k1] at g1 ⊢
  clear hb0 hh0 hp0 hl0 c0 c1
  have c0 := hb1.cellAt 0 (v := .pointer (some ⟨lb, 0, none⟩)) rfl
  have c1 := hb1.cellAt 1 (v := .pointer (some ⟨hb, 0, none⟩)) rfl
  have c2 := hb1.cellAt 2 (v := .slice (some ⟨pb, 0, none⟩) 65 65) rfl
  have s0 := hp1.cellAt 6 (v := pl[6]'(by omega)) (Array.getElem?_eq_getElem (by omega))
  have s1 := (hp1.set 6 (.func (.func F) #[] cap)).cellAt 7 (v := pl[7]'(by omega)) (by rw [Array.getElem?_setIfInBounds_ne (by omega)]; exact Array.getElem?_eq_getElem (by omega))
  have z0 := hp1.free 6
  have z1 := (hp1.set 6 (.func (.func F) #[] cap)).free 7
  go_wp2_with fail
  refine wp_loop_rounds 1 ?_; rw [rounds_succ]
  go_wp2_with fail
  have hb2 := (hb1.set_other (a := ⟨pb, 6, none⟩) (Ne.symm n3) (.func (.func F) #[] cap)).set_other (a := ⟨pb, 7, none⟩) (Ne.symm n3) (.int .i64 2)
  have hp2 := (hp1.set 6 (.func (.func F) #[] cap)).set 7 (.int .i64 2)
  have hh2 := (hh1.set_other (a := ⟨pb, 6, none⟩) (Ne.symm n5) (.func (.func F) #[] cap)).set_other (a := ⟨pb, 7, none⟩) (Ne.symm n5) (.int .i64 2)
  have hl2 := (g1.set_other (a := ⟨pb, 6, none⟩) (Ne.symm n4) (.func (.func F) #[] cap)).set_other (a := ⟨pb, 7, none⟩) (Ne.symm n4) (.int .i64 2)
  have hc2 : Chg (fun k => k = lb ∨ k = hb ∨ k = pb) w1 ((w1.setCell ⟨pb, 6, none⟩ (.func (.func F) #[] cap)).setCell ⟨pb, 7, none⟩ (.int .i64 2)) := ((Chg.refl _ _).setCell (.inl (.inr (.inr rfl))) _).setCell (.inl (.inr (.inr rfl))) _
  generalize (w1.setCell ⟨pb, 6, none⟩ (.func (.func F) #[] cap)).setCell ⟨pb, 7, none⟩ (.int .i64 2) = w2 at *
  clear s0 s1 z0 z1 c0 c1 c2 hp1 hb1 hh1 
  have c1 := hb2.cellAt 1 (v := .pointer (some ⟨hb, 0, none⟩)) rfl
  go_wp2_with fail
  refine (cas_ok _ _ _ _ hh2).mono ?_
  rintro e w3 ⟨rfl, k1, k2⟩
  go_wp2_with fail
  go_ret2
  refine ⟨rfl, ⟨k2.blk hb2 n2, k2.blk hl2 hne, k1, k2.blk hp2 (Ne.symm n5), by simpa using hsz, hne⟩, ?_⟩
  exact ((g2.mono (fun _ _ e => .inl e)).trans hc2).trans' k2 (fun _ _ e => .inr (.inl e))
variable {w : World} {b s l lb hb pb : Nat} {st last head v : Int} {pl : Array Value} {x : Value}
theorem fut_then_add_1 (h : FutAt w b s l lb hb pb st 1 1 pl v x) (F : Nat) (cap : Array Value) : Calls Tryz.prog 69 #[.pointer (some ⟨b, 0, none⟩), .pointer none, .func (.func F) #[] cap] w fun e w' => e = .returned (.int .i64 0) ∧ FutAt w' b s l lb hb pb st 2 2 ((pl.setIfInBounds 4 (.func (.func F) #[] cap)).setIfInBounds 5 (.int .i64 1)) v x ∧ Chg (fun k => k = lb ∨ k = hb ∨ k = pb) w w' := by
  have hnn : ∀ w, (binOp .eql 131 (.func (.func F) #[] cap) .nilFunc).run Tryz.prog w = .ok (.bool false) w := fun w => by kernel_rfl
  have hne := h.ne
  have c1 := h.blk.cellAt 1 (v := .pointer (some ⟨l, 0, none⟩)) rfl
  go_enter Tryz.func69, Tryz.ntmps69
  go_wp2_with (first | (go_at_call 65; refine (fut_made _ _ _ _ h.blk rfl).mono ?_; rintro e w' ⟨rfl, rfl⟩))
  refine (flist_add_1 _ _ _ _ _ _ _ _ h.list).mono ?_
  rintro e w1 ⟨rfl, g1, g2⟩
  have h1 : FutAt w1 b s l lb hb pb st 2 2 ((pl.setIfInBounds 4 (.func (.func F) #[] cap)).setIfInBounds 5 (.int .i64 1)) v x := ⟨g2.blk h.blk (by omega), g2.blk h.cell (by omega), g1, h.n1, h.n2⟩
  go_wp2_with fail
  go_ret
  exact ⟨rfl, h1, g2⟩
theorem fut_then_add_2 (h : FutAt w b s l lb hb pb st 2 2 pl v x) (F : Nat) (cap : Array Value) : Calls Tryz.prog 69 #[.pointer (some ⟨b, 0, none⟩), .pointer none, .func (.func F) #[] cap] w fun e w' => e = .returned (.int .i64 0) ∧ FutAt w' b s l lb hb pb st 3 3 ((pl.setIfInBounds 6 (.func (.func F) #[] cap)).setIfInBounds 7 (.int .i64 2)) v x ∧ Chg (fun k => k = lb ∨ k = hb ∨ k = pb) w w' := by
  have hnn : ∀ w, (binOp .eql 131 (.func (.func F) #[] cap) .nilFunc).run Tryz.prog w = .ok (.bool false) w := fun w => by kernel_rfl
  have hne := h.ne
  have c1 := h.blk.cellAt 1 (v := .pointer (some ⟨l, 0, none⟩)) rfl
  go_enter Tryz.func69, Tryz.ntmps69
  go_wp2_with (first | (go_at_call 65; refine (fut_made _ _ _ _ h.blk rfl).mono ?_; rintro e w' ⟨rfl, rfl⟩))
  refine (flist_add_2 _ _ _ _ _ _ _ _ h.list).mono ?_
  rintro e w1 ⟨rfl, g1, g2⟩
  have h1 : FutAt w1 b s l lb hb pb st 3 3 ((pl.setIfInBounds 6 (.func (.func F) #[] cap)).setIfInBounds 7 (.int .i64 2)) v x := ⟨g2.blk h.blk (by omega), g2.blk h.cell (by omega), g1, h.n1, h.n2⟩
  go_wp2_with fail
  go_ret
  exact ⟨rfl, h1, g2⟩
end Go.Proofs.YtgljjgmfhememaaGreatDoor
