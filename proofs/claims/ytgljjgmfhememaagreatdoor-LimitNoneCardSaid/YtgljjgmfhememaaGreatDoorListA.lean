/- list.List of functions with a nil thread, one goroutine: the first Add, Close of none and of one, later Adds. Conditions: none. -/
import Derived.Test.YtgljjgmfhememaaGreatDoorList
import Derived.OwnWalk
import Derived.Laws.EntriesVeiled
namespace Go.Proofs.YtgljjgmfhememaaGreatDoor
open Go Go.RowKit
set_option maxRecDepth 100000
set_option maxHeartbeats 1000000
theorem flist_add (w : World) (b lb hb pb : Nat) (pl : Array Value) (F : Nat) (cap : Array Value) (h : FList w b lb hb pb 0 0 pl) :
    Calls Tryz.prog 129 #[.pointer (some ⟨b, 0, none⟩), .pointer none, .func (.func F) #[] cap] w fun e w' => e = .returned (.tuple #[.int .i64 1, .int .i64 0]) ∧ FList w' b lb hb pb 1 1 ((pl.setIfInBounds 2 (.func (.func F) #[] cap)).setIfInBounds 3 (.int .i64 0)) ∧ Chg (fun k => k = lb ∨ k = hb ∨ k = pb) w w' := by
  have hne := h.ne
  have n1 : b ≠ lb := h.blk.ne h.clast (by decide)
  have n2 : b ≠ hb := h.blk.ne h.chead (by decide)
  have n3 : b ≠ pb := h.blk.ne h.places (by decide)
  have n4 : lb ≠ pb := h.clast.ne h.places (by decide)
  have n5 : hb ≠ pb := h.chead.ne h.places (by decide)
  have c0 := h.blk.cellAt 0 (v := .pointer (some ⟨lb, 0, none⟩)) rfl
  have c1 := h.blk.cellAt 1 (v := .pointer (some ⟨hb, 0, none⟩)) rfl
  have hsz := h.size
  obtain ⟨hb0, hl0, hh0, hp0, _, _⟩ := h
  go_enter Tryz.func129, Tryz.ntmps129
  go_wp2_with (first | (go_at_call 183; refine (flist_made _ _ _ _ hb0 rfl).mono ?_; rintro e w' ⟨rfl, rfl⟩) | (go_at_call 66; refine (cell_load_at _ _ _ hh0).mono ?_; rintro e w' ⟨rfl, rfl⟩))
  refine (add_ok _ _ _ _ hl0).mono ?_
  rintro e w1 ⟨rfl, g1, g2⟩
  have hb1 := g2.blk hb0 n1
  have hh1 : CellAt w1 hb 0 := g2.blk hh0 (Ne.symm hne)
  have hp1 := g2.blk hp0 (Ne.symm n4)
  have k1 : wrap64 (0 + 1) = 1 := by kernel_rfl
  rw [k1] at g1 ⊢
  clear hb0 hh0 hp0 hl0 c0 c1
  have c0 := hb1.cellAt 0 (v := .pointer (some ⟨lb, 0, none⟩)) rfl
  have c1 := hb1.cellAt 1 (v := .pointer (some ⟨hb, 0, none⟩)) rfl
  have c2 := hb1.cellAt 2 (v := .slice (some ⟨pb, 0, none⟩) 65 65) rfl
  have s0 := hp1.cellAt 2 (v := pl[2]'(by omega)) (Array.getElem?_eq_getElem (by omega))
  have s1 := (hp1.set 2 (.func (.func F) #[] cap)).cellAt 3 (v := pl[3]'(by omega)) (by rw [Array.getElem?_setIfInBounds_ne (by omega)]; exact Array.getElem?_eq_getElem (by omega))
  have z0 := hp1.free 2
  have z1 := (hp1.set 2 (.func (.func F) #[] cap)).free 3
  go_wp2_with fail
  refine wp_loop_rounds 1 ?_; rw [rounds_succ]
  go_wp2_with fail
  have hb2 := (hb1.set_other (a := ⟨pb, 2, none⟩) (Ne.symm n3) (.func (.func F) #[] cap)).set_other (a := ⟨pb, 3, none⟩) (Ne.symm n3) (.int .i64 0)
  have hp2 := (hp1.set 2 (.func (.func F) #[] cap)).set 3 (.int .i64 0)
  have hh2 := (hh1.set_other (a := ⟨pb, 2, none⟩) (Ne.symm n5) (.func (.func F) #[] cap)).set_other (a := ⟨pb, 3, none⟩) (Ne.symm n5) (.int .i64 0)
  have hl2 := (g1.set_other (a := ⟨pb, 2, none⟩) (Ne.symm n4) (.func (.func F) #[] cap)).set_other (a := ⟨pb, 3, none⟩) (Ne.symm n4) (.int .i64 0)
  have hc2 : Chg (fun k => k = lb ∨ k = hb ∨ k = pb) w1 ((w1.setCell ⟨pb, 2, none⟩ (.func (.func F) #[] cap)).setCell ⟨pb, 3, none⟩ (.int .i64 0)) := ((Chg.refl _ _).setCell (.inl (.inr (.inr rfl))) _).setCell (.inl (.inr (.inr rfl))) _
  generalize (w1.setCell ⟨pb, 2, none⟩ (.func (.func F) #[] cap)).setCell ⟨pb, 3, none⟩ (.int .i64 0) = w2 at *
  clear s0 s1 z0 z1 c0 c1 c2 hp1 hb1 hh1 
  have c1 := hb2.cellAt 1 (v := .pointer (some ⟨hb, 0, none⟩)) rfl
  go_wp2_with fail
  refine (cas_ok _ _ _ _ hh2).mono ?_
  rintro e w3 ⟨rfl, k1, k2⟩
  go_wp2_with fail
  go_ret2
  refine ⟨rfl, ⟨k2.blk hb2 n2, k2.blk hl2 hne, k1, k2.blk hp2 (Ne.symm n5), by simpa using hsz, hne⟩, ?_⟩
  exact ((g2.mono (fun _ _ e => .inl e)).trans hc2).trans' k2 (fun _ _ e => .inr (.inl e))
theorem flist_add_closed (w : World) (b lb hb pb : Nat) (last : Int) (pl : Array Value) (f : Value) (h : FList w b lb hb pb last (-1) pl) :
    Calls Tryz.prog 129 #[.pointer (some ⟨b, 0, none⟩), .pointer none, f] w fun e w' => e = .returned (.tuple #[.int .i64 0, .int .i64 13]) ∧ w = w' := by
  have c1 := h.blk.cellAt 1 (v := .pointer (some ⟨hb, 0, none⟩)) rfl
  go_enter Tryz.func129, Tryz.ntmps129
  go_wp2_with (first | (go_at_call 183; refine (flist_made _ _ _ _ h.blk rfl).mono ?_; rintro e w' ⟨rfl, rfl⟩) | (go_at_call 66; refine (cell_load_at _ _ _ h.chead).mono ?_; rintro e w' ⟨rfl, rfl⟩))
  go_ret2
  exact ⟨rfl, rfl⟩
theorem reverse_nil (w : World) : Calls Tryz.prog 206 #[.slice none 0 0] w fun e w' => e = .returned (.tuple #[]) ∧ w = w' := by
  go_enter Tryz.func206, Tryz.ntmps206
  go_wp2_with fail
  refine wp_loop_rounds 1 ?_; rw [rounds_succ]
  go_wp2_with fail
  go_end0
  exact ⟨rfl, rfl⟩
theorem reverse_one (w : World) (a : Addr) (c : Nat) : Calls Tryz.prog 206 #[.slice (some a) 1 c] w fun e w' => e = .returned (.tuple #[]) ∧ w = w' := by
  go_enter Tryz.func206, Tryz.ntmps206
  go_wp2_with fail
  refine wp_loop_rounds 1 ?_; rw [rounds_succ]
  go_wp2_with fail
  go_end0
  exact ⟨rfl, rfl⟩
theorem Chg.of_grown {w w' : World} (h : w.grownBy w' none) {S : Nat → Prop} : Chg S w w' := ⟨h.os, h.tape, h.output, h.size, fun k hk _ => h.block k hk (by simp)⟩
theorem flist_row_nil (w : World) (b : Nat) : Calls Tryz.prog 185 #[.pointer (some ⟨b, 0, none⟩), .int .i64 0] w fun e w' => e = .returned (.slice none 0 0) ∧ w = w' := by
  go_enter Tryz.func185, Tryz.ntmps185
  go_wp2_with fail
  refine wp_loop_rounds 1 ?_; rw [rounds_succ]
  go_wp2_with fail
  refine (reverse_nil _).mono ?_
  rintro e w' ⟨rfl, rfl⟩
  go_wp2_with fail
  go_ret
  exact ⟨rfl, rfl⟩
theorem flist_row_one (w : World) (b lb hb pb : Nat) (last head : Int) (pl : Array Value) (F : Nat) (cap : Array Value) (h : FList w b lb hb pb last head pl) (e2 : pl[2]? = some (.func (.func F) #[] cap)) (e3 : pl[3]? = some (.int .i64 0)) : Calls Tryz.prog 185 #[.pointer (some ⟨b, 0, none⟩), .int .i64 1] w fun e w' => ∃ rb c, e = .returned (.slice (some ⟨rb, 0, none⟩) 1 c) ∧ w'.cell? ⟨rb, 0, none⟩ = some (.func (.func F) #[] cap) ∧ w.heap.size ≤ rb ∧ Same w w' := by
  have c2 := h.blk.cellAt 2 (v := .slice (some ⟨pb, 0, none⟩) 65 65) rfl
  have s2 := h.places.cellAt 2 e2
  have s3 := h.places.cellAt 3 e3
  obtain ⟨i0, hi, hz0, hz1, hz2⟩ := info_parts (P := Tryz.prog) (e := 131) (z := .nilFunc) (size := 1) (bytes := 8) (by kernel_rfl)
  go_enter Tryz.func185, Tryz.ntmps185
  go_wp2_with fail
  refine wp_loop_rounds 2 ?_; rw [rounds_succ]
  go_wp2_with (at_builtin; refine wpList_append_own _ rfl _ _ 252 rfl w.heap.size 131 i0 .nilFunc 1 8 Tryz.underlying252 hi hz0 hz1 hz2 rfl (by decide) _ _ _ rfl (World.ownsRow_nil _ _ _ _) ⟨w.heap.size, 0, none⟩ 1 1 [.func (.func F) #[] cap] rfl rfl ?c1 ?c2 ?c3 ?c4 ?c5 ?c6)
  case c1 =>
    intro j u hj
    rcases j with _ | j
    · simp at hj; subst hj; exact (Blk.new w _ _).cellAt 0 rfl
    · simp at hj
  case c2 => intro u hu; simp at hu; subst hu; rfl
  case c3 => decide
  case c4 => decide
  case c5 => simp
  case c6 =>
    intro v' w' ho hg hn
    obtain ⟨_, ⟨rfl, _⟩ | ⟨g, c, cur, rfl, hgb, hcell, _, _, hcs, htk⟩⟩ := ho
    · exact absurd rfl hn
    have hs : Same w w' := (Chg.alloc (Chg.refl _ _) _).trans (Chg.of_grown hg)
    have hg0 : w'.cell? ⟨g, 0, none⟩ = some (.func (.func F) #[] cap) := by
      have e0 : cur[0]? = some (.func (.func F) #[] cap) := by
        rw [← Array.getElem?_toList]
        cases hh : cur.toList with
        | nil => rw [hh] at htk; simp at htk
        | cons x xs => rw [hh] at htk; simp at htk; simp [htk]
      exact Blk.cellAt (cs := cur) (T := 131) hcell 0 e0
    have h' : FList w' b lb hb pb last head pl := h.chg hs (fun x => x) (fun x => x) (fun x => x) (fun x => x)
    have d2 := h'.blk.cellAt 2 (v := .slice (some ⟨pb, 0, none⟩) 65 65) rfl
    have d3 := h'.places.cellAt 3 e3
    clear c2 s2 s3
    go_wp2_with fail
    rw [rounds_succ]
    go_wp2_with fail
    refine (reverse_one _ _ _).mono ?_
    rintro e w2 ⟨rfl, rfl⟩
    go_wp2_with fail
    go_ret
    exact ⟨g, c, rfl, hg0, hgb, hs⟩
/-- What Close hands over. -/
theorem flist_close_nil (w : World) (b lb hb pb : Nat) (last : Int) (pl : Array Value) (h : FList w b lb hb pb last 0 pl) :
    Calls Tryz.prog 133 #[.pointer (some ⟨b, 0, none⟩), .pointer none] w fun e w' => e = .returned (.tuple #[.slice none 0 0, .int .i64 0]) ∧ FList w' b lb hb pb last (-1) pl ∧ Chg (· = hb) w w' := by
  have n2 : b ≠ hb := h.blk.ne h.chead (by decide)
  have n5 : hb ≠ pb := h.chead.ne h.places (by decide)
  have hne := h.ne
  have c1 := h.blk.cellAt 1 (v := .pointer (some ⟨hb, 0, none⟩)) rfl
  go_enter Tryz.func133, Tryz.ntmps133
  go_wp2_with (first | (go_at_call 183; refine (flist_made _ _ _ _ h.blk rfl).mono ?_; rintro e w' ⟨rfl, rfl⟩))
  refine (swap_ok _ _ _ _ h.chead).mono ?_
  rintro e w1 ⟨rfl, g1, g2⟩
  have h1 : FList w1 b lb hb pb last (-1) pl := ⟨g2.blk h.blk n2, g2.blk h.clast hne, g1, g2.blk h.places (Ne.symm n5), h.size, hne⟩
  clear c1
  go_wp2_with fail
  refine (flist_row_nil _ _).mono ?_
  rintro e w2 ⟨rfl, rfl⟩
  go_wp2_with fail
  go_ret2
  exact ⟨rfl, h1, g2⟩
theorem flist_close_one (w : World) (b lb hb pb : Nat) (last : Int) (pl : Array Value) (F : Nat) (cap : Array Value) (h : FList w b lb hb pb last 1 pl) (e2 : pl[2]? = some (.func (.func F) #[] cap)) (e3 : pl[3]? = some (.int .i64 0)) :
    Calls Tryz.prog 133 #[.pointer (some ⟨b, 0, none⟩), .pointer none] w fun e w' => ∃ rb c, e = .returned (.tuple #[.slice (some ⟨rb, 0, none⟩) 1 c, .int .i64 0]) ∧ FList w' b lb hb pb last (-1) pl ∧ w'.cell? ⟨rb, 0, none⟩ = some (.func (.func F) #[] cap) ∧ w.heap.size ≤ rb ∧ Chg (· = hb) w w' := by
  have n2 : b ≠ hb := h.blk.ne h.chead (by decide)
  have n5 : hb ≠ pb := h.chead.ne h.places (by decide)
  have hne := h.ne
  have c1 := h.blk.cellAt 1 (v := .pointer (some ⟨hb, 0, none⟩)) rfl
  go_enter Tryz.func133, Tryz.ntmps133
  go_wp2_with (first | (go_at_call 183; refine (flist_made _ _ _ _ h.blk rfl).mono ?_; rintro e w' ⟨rfl, rfl⟩))
  refine (swap_ok _ _ _ _ h.chead).mono ?_
  rintro e w1 ⟨rfl, g1, g2⟩
  have h1 : FList w1 b lb hb pb last (-1) pl := ⟨g2.blk h.blk n2, g2.blk h.clast hne, g1, g2.blk h.places (Ne.symm n5), h.size, hne⟩
  clear c1
  go_wp2_with fail
  refine (flist_row_one _ _ _ _ _ _ _ _ _ _ h1 e2 e3).mono ?_
  rintro e w2 ⟨rb, c, rfl, k1, k2, k3⟩
  go_wp2_with fail
  go_ret2
  exact ⟨rb, c, rfl, h1.chg k3 (fun x => x) (fun x => x) (fun x => x) (fun x => x), k1, Nat.le_trans g2.size k2, g2.trans' k3 (fun _ _ e => e.elim)⟩
end Go.Proofs.YtgljjgmfhememaaGreatDoor
