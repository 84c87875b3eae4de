/- memo.New with sizes that may be, and with others. Conditions: none. -/
import Derived.Test.YtgdjbfcdkibdbaaGreatDoorPlace
import Derived.Test.YtgdjbfcdkibdbaaGreatDoorFutC
import Derived.Laws.MakeOwn
import Derived.Deep.RegionHeld3
namespace Go.Proofs.YtgdjbfcdkibdbaaGreatDoor
open Go Go.RowKit
set_option maxRecDepth 100000
set_option maxHeartbeats 2000000
/-- A place: its key's cell holds c; its future. -/
structure PlaceAt (w : World) (cs : Array Value) (i : Nat) (lo hi : Nat) (c b s l lb hb pb : Nat) (key : Int) (st last head v : Int) (pl : Array Value) (e : Value) : Prop where
  k0 : cs[2 * i]? = some (.pointer (some ⟨c, 0, none⟩))
  k1 : cs[2 * i + 1]? = some (.pointer (some ⟨b, 0, none⟩))
  cell : CellAt w c key
  fut : FutAt w b s l lb hb pb st last head pl v e
  nec : c ≠ s ∧ c ≠ lb ∧ c ≠ hb
  lo : lo ≤ c ∧ lo ≤ b ∧ lo ≤ s ∧ lo ≤ l ∧ lo ≤ lb ∧ lo ≤ hb ∧ lo ≤ pb
  hi : c < hi ∧ b < hi ∧ s < hi ∧ l < hi ∧ lb < hi ∧ hb < hi ∧ pb < hi
/-- A new one. -/
def Fresh (w : World) (cs : Array Value) (i lo hi : Nat) : Prop := ∃ c b s l lb hb pb, PlaceAt w cs i lo hi c b s l lb hb pb 0 0 0 0 0 fpl0 .nilIface
theorem Fresh.same {w w' : World} {cs cs' : Array Value} {i lo hi : Nat} {S : Nat → Prop} (h : Fresh w cs i lo hi) (hs : Chg S w w') (hS : ∀ k, lo ≤ k → k < hi → ¬ S k) (h0 : cs'[2 * i]? = cs[2 * i]?) (h1 : cs'[2 * i + 1]? = cs[2 * i + 1]?) : Fresh w' cs' i lo hi := by
  obtain ⟨c, b, s, l, lb, hb, pb, p⟩ := h
  obtain ⟨l1, l2, l3, l4, l5, l6, l7⟩ := p.lo
  obtain ⟨u1, u2, u3, u4, u5, u6, u7⟩ := p.hi
  exact ⟨c, b, s, l, lb, hb, pb, h0.trans p.k0, h1.trans p.k1, p.cell.chg hs (hS _ l1 u1), p.fut.chg hs (hS _ l2 u2) (hS _ l3 u3) (hS _ l4 u4) (hS _ l5 u5) (hS _ l6 u6) (hS _ l7 u7), p.nec, p.lo, p.hi⟩
theorem memo_new_no (s : Int) (h : ¬ s ∈ powers) (w : World) : Calls Tryz.prog 12 #[.int .i64 s] w fun e w' => e = .returned (.pointer none) ∧ w = w' := by
  go_enter Tryz.func12, Tryz.ntmps12
  go_wp2_with fail
  refine (power_no s h w).mono ?_
  rintro e w' ⟨rfl, rfl⟩
  go_wp2_with fail
  go_ret
  exact ⟨rfl, rfl⟩
def MemoNew (w : World) (n : Nat) (e : Ending) (w' : World) : Prop := ∃ (m pb : Nat) (cs : Array Value) (bnd : Nat → Nat), e = .returned (.pointer (some ⟨m, 0, none⟩)) ∧ Blk w' m #[.slice (some ⟨pb, 0, none⟩) n n] 28 ∧ Blk w' pb cs 132 ∧ cs.size = 2 * n ∧
  w.heap.size ≤ m ∧ w.heap.size ≤ pb ∧ m < bnd 0 ∧ pb < bnd 0 ∧ (∀ i, i < n → Fresh w' cs i (bnd i) (bnd (i + 1))) ∧ bnd n ≤ w'.heap.size ∧ Same w w'
theorem memo_new (k : Nat) (hk : k ≤ 12) (n : Nat) (hn : pw k = n) (w : World) : Calls Tryz.prog 12 #[.int .i64 (pw k)] w (MemoNew w n) := by
  obtain ⟨i0, hi, hz0, hz1, hz2⟩ := info_parts (P := Tryz.prog) (e := 132) (z := .agg #[.pointer none, .pointer none]) (size := 2) (bytes := 16) (by kernel_rfl)
  have hr := pw_range k (by omega)
  have hm := fun w => run_makeSlice (P := Tryz.prog) w 26 132 i0 (.agg #[.pointer none, .pointer none]) Tryz.underlying26 hi hz0 .i64 .i64 (pw k) (pw k) (by omega) (Int.le_refl _) (by rw [hz1]; omega) (by rw [hz2]; omega) (by omega)
  have hp := power_yes (pw k) ((pw_mem _).2 ⟨k, hk, rfl⟩)
  rw [hz1, hn] at hm
  rw [hn] at hp hr ⊢
  simp only [Int.toNat_natCast] at hm
  clear hi hz0 hz1 hz2 hn hk
  go_enter Tryz.func12, Tryz.ntmps12
  go_wp2_with fail
  refine (hp w).mono ?_
  rintro e w' ⟨rfl, rfl⟩
  clear hp
  go_wp2_with fail
  have b1 : Blk ((w.alloc (.cells (madeCells #[.pointer none, .pointer none] (n * 2)) 132)).alloc (.cells #[.slice (some ⟨w.heap.size, 0, none⟩) n n] 28)) w.heap.size (madeCells #[.pointer none, .pointer none] (n * 2)) 132 := (Blk.new _ _ _).alloc _
  have b2 : Blk ((w.alloc (.cells (madeCells #[.pointer none, .pointer none] (n * 2)) 132)).alloc (.cells #[.slice (some ⟨w.heap.size, 0, none⟩) n n] 28)) (w.heap.size + 1) #[.slice (some ⟨w.heap.size, 0, none⟩) n n] 28 := Blk.neww (by simp) _ _
  have s1 : Same w ((w.alloc (.cells (madeCells #[.pointer none, .pointer none] (n * 2)) 132)).alloc (.cells #[.slice (some ⟨w.heap.size, 0, none⟩) n n] 28)) := ((Chg.refl _ _).alloc _).alloc _
  have hsz : (madeCells #[.pointer none, .pointer none] (n * 2)).size = 2 * n := by rw [size_madeCells]; omega
  have hlt := b2.lt
  generalize (madeCells #[.pointer none, .pointer none] (n * 2)) = cs0 at *
  generalize ((w.alloc (.cells cs0 132)).alloc (.cells #[.slice (some ⟨w.heap.size, 0, none⟩) n n] 28)) = w1 at *
  clear hm
  go_loopw [17] (fun i wr => ∃ (k : Nat) (cs : Array Value) (bnd : Nat → Nat), k ≤ n ∧ i = .int .i64 k ∧ Blk wr (w.heap.size + 1) #[.slice (some ⟨w.heap.size, 0, none⟩) n n] 28 ∧ Blk wr w.heap.size cs 132 ∧ cs.size = 2 * n ∧
      w.heap.size + 1 < bnd 0 ∧ (∀ i, i < k → Fresh wr cs i (bnd i) (bnd (i + 1))) ∧ (∀ i, i ≤ k → w.heap.size + 1 < bnd i) ∧ bnd k ≤ wr.heap.size ∧ Same w wr) (fun i _ => n - (intOf i).toNat)
  case atStart => exact ⟨0, cs0, fun _ => w1.heap.size, by omega, rfl, b2, b1, hsz, hlt, fun i hi => absurd hi (by omega), fun i _ => hlt, Nat.le_refl _, s1⟩
  case round =>
    rename World => wr
    obtain ⟨k, cs, bnd, hk, rfl, m0, q0, hcs, hb0, hF, hbn, hbk, hs⟩ := hrel
    have c0 := m0.cellAt 0 (v := .slice (some ⟨w.heap.size, 0, none⟩) n n) rfl
    have hF' := Lib.hid hF
    have hbn' := Lib.hid hbn
    clear hF hbn b1 b2
    by_cases hkn : k < n
    · go_wp2_with fail
      have hk0 : cs[k * 2]? = some (cs[k * 2]'(by omega)) := Array.getElem?_eq_getElem (by omega)
      have hk1 : cs[k * 2 + 1]? = some (cs[k * 2 + 1]'(by omega)) := Array.getElem?_eq_getElem (by omega)
      generalize (cs[k * 2]'(by omega)) = y0 at *
      generalize (cs[k * 2 + 1]'(by omega)) = y1 at *
      have hk0' := Lib.hid hk0
      have hk1' := Lib.hid hk1
      clear hk0 hk1
      go_region_held3 (fun w' => w'.cell? ⟨w.heap.size + 1, 0, none⟩ = some (.slice (some ⟨w.heap.size, 0, none⟩) n n)) (go_keep)
        (first
          | (go_at_call 38; refine (cell_new wr.drew 0).mono ?_; rintro e w2 ⟨rfl, hw2⟩; have x1 : CellAt w2 wr.heap.size 0 := hw2 ▸ CellAt.new wr.drew 0; have z0 : wr.heap.size < w2.heap.size := x1.lt; have s2 : Same wr w2 := hw2 ▸ ((Chg.refl _ _).drew.alloc _); have d1 := (s2.blk m0 (fun x => x)).cellAt 0 (v := .slice (some ⟨w.heap.size, 0, none⟩) n n) rfl; clear hw2)
          | (go_at_call 20; refine (fut_new w2).mono ?_; rintro e w3 ⟨b, s, l, lb, hb, q, rfl, F, z1, z2, z3, z4, z5, z6, s3⟩; have x2 := x1.chg s3 (fun x => x); have s4 : Same wr w3 := s2.trans s3; have d2 := (s4.blk m0 (fun x => x)).cellAt 0 (v := .slice (some ⟨w.heap.size, 0, none⟩) n n) rfl; have p3 := s4.blk q0 (fun x => x); have e0 := p3.cellAt (k * 2) hk0'.out; have e1 := p3.cellAt (k * 2 + 1) hk1'.out; have f0 := p3.free (k * 2); have f1 := p3.free (k * 2 + 1)))
      have hzz := s4.size
      have hw0 : w.heap.size + 1 < wr.heap.size := m0.lt
      have n1 : wr.heap.size ≠ w.heap.size := by omega
      have g3 : Chg (fun j => j = w.heap.size) w3 ((w3.setCell ⟨w.heap.size, k * 2, none⟩ (.pointer (some ⟨wr.heap.size, 0, none⟩))).setCell ⟨w.heap.size, k * 2 + 1, none⟩ (.pointer (some ⟨b, 0, none⟩))) := Chg.setCell (S := fun j => j = w.heap.size) (p := ⟨w.heap.size, k * 2 + 1, none⟩) (Chg.setCell (S := fun j => j = w.heap.size) (p := ⟨w.heap.size, k * 2, none⟩) (Chg.refl _ _) (.inl rfl) _) (.inl rfl) _
      have P := (p3.set (k * 2) (.pointer (some ⟨wr.heap.size, 0, none⟩))).set (k * 2 + 1) (.pointer (some ⟨b, 0, none⟩))
      have hws : ((w3.setCell ⟨w.heap.size, k * 2, none⟩ (.pointer (some ⟨wr.heap.size, 0, none⟩))).setCell ⟨w.heap.size, k * 2 + 1, none⟩ (.pointer (some ⟨b, 0, none⟩))).heap.size = w3.heap.size := by simp [World.setCell]
      generalize ((w3.setCell ⟨w.heap.size, k * 2, none⟩ (.pointer (some ⟨wr.heap.size, 0, none⟩))).setCell ⟨w.heap.size, k * 2 + 1, none⟩ (.pointer (some ⟨b, 0, none⟩))) = w4 at *
      obtain ⟨v1, v2, v3, v4, v5, v6⟩ := F.lt
      have g4 : Chg (fun j => j = w.heap.size) wr w4 := (s4.mono (fun _ _ e => absurd e (fun x => x))).trans g3
      have hnew : Fresh w4 ((cs.setIfInBounds (k * 2) (.pointer (some ⟨wr.heap.size, 0, none⟩))).setIfInBounds (k * 2 + 1) (.pointer (some ⟨b, 0, none⟩))) k (bnd k) w3.heap.size := by
        refine ⟨wr.heap.size, b, s, l, lb, hb, q, ?_, ?_, x2.chg g3 n1, F.chg g3 ?_ ?_ ?_ ?_ ?_ ?_, ?_, ?_, ?_⟩
        · rw [Array.getElem?_setIfInBounds_ne (by omega), Nat.mul_comm 2 k, Array.getElem?_setIfInBounds_self_of_lt (by omega)]
        · rw [Nat.mul_comm 2 k, Array.getElem?_setIfInBounds_self_of_lt (by rw [Array.size_setIfInBounds]; omega)]
        all_goals omega
      have hm4 := g4.blk m0 (by omega)
      have hs4 : Same w w4 := hs.trans' g4 (fun i hi e => by omega)
      clear c0 d1 d2 e0 e1 f0 f1 p3 g3 x1 x2 F m0 q0 s2 s3 s4
      go_wp2_with fail
      go_roundw
      case rel =>
        refine ⟨k + 1, _, fun i => if i ≤ k then bnd i else w3.heap.size, by omega, by simp, hm4, P, by simp [hcs], ?_, ?_, ?_, ?_, hs4⟩
        · simp only [Nat.zero_le, if_true]; exact hb0
        · intro i hi
          by_cases e : i = k
          · subst e
            simp only [Nat.le_refl, if_true, if_neg (show ¬ i + 1 ≤ i by omega)]
            exact hnew
          · simp only [if_pos (show i ≤ k by omega), if_pos (show i + 1 ≤ k by omega)]
            have h1 := hbn'.out i (by omega)
            refine (hF'.out i (by omega)).same g4 (fun j h2 h3 e => by omega) ?_ ?_
            · rw [Array.getElem?_setIfInBounds_ne (by omega), Array.getElem?_setIfInBounds_ne (by omega)]
            · rw [Array.getElem?_setIfInBounds_ne (by omega), Array.getElem?_setIfInBounds_ne (by omega)]
        · intro i hi
          by_cases e : i ≤ k
          · simp only [if_pos e]; exact hbn'.out i e
          · simp only [if_neg e]; omega
        · simp only [if_neg (show ¬ k + 1 ≤ k by omega)]; omega
      case measure => simp [intOf]; omega
    · go_wp2_with fail
      have hkn' : k = n := by omega
      subst hkn'
      go_ret
      exact ⟨_, _, cs, bnd, rfl, m0, q0, hcs, by omega, by omega, hb0, by omega, hF'.out, hbk, hs⟩
end Go.Proofs.YtgdjbfcdkibdbaaGreatDoor
