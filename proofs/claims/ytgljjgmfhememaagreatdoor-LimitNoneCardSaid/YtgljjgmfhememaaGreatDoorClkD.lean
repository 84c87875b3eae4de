/- (*clock.Clock).look with a nil thread: the timer that rings next. Conditions: none. -/
import Derived.Test.YtgljjgmfhememaaGreatDoorClkC
namespace Go.Proofs.YtgljjgmfhememaaGreatDoor
open Go Go.RowKit
set_option maxRecDepth 100000
set_option maxHeartbeats 2000000
variable {w : World} {N : Nat} {now busy : Int} {st due : Nat → Int} {fs : Nat → Value}
/-- It is set, and its time has come. -/
def Cand (st due : Nat → Int) (T : Int) (i : Nat) : Prop := st i % 4 = 2 ∧ due i ≤ T
/-- The best below k. -/
def Best (st due : Nat → Int) (T : Int) (k : Nat) (o : Option Nat) : Prop := match o with
  | none => ∀ i, i < k → ¬ Cand st due T i
  | some j => j < k ∧ Cand st due T j ∧ ∀ i, i < k → Cand st due T i → due j ≤ due i ∧ (due i = due j → j ≤ i)
theorem Best.skip {T : Int} {k : Nat} {o : Option Nat} (h : Best st due T k o) (hk : ¬ Cand st due T k) : Best st due T (k + 1) o := by
  cases o with
  | none =>
    intro i hi hc
    by_cases hik : i = k
    · exact hk (hik ▸ hc)
    · exact h i (by omega) hc
  | some j =>
    refine ⟨by have := h.1; omega, h.2.1, fun i hi hc => ?_⟩
    by_cases hik : i = k
    · exact absurd (hik ▸ hc) hk
    · exact h.2.2 i (by omega) hc
theorem Best.take {T : Int} {k : Nat} (h : Best st due T k none) (hk : Cand st due T k) : Best st due T (k + 1) (some k) := by
  refine ⟨by omega, hk, fun i hi hc => ?_⟩
  by_cases hik : i = k
  · subst hik; exact ⟨Int.le_refl _, fun _ => Nat.le_refl _⟩
  · exact absurd hc (h i (by omega))
theorem Best.better {T : Int} {k j : Nat} (h : Best st due T k (some j)) (hk : Cand st due T k) (hlt : due k < due j) : Best st due T (k + 1) (some k) := by
  refine ⟨by omega, hk, fun i hi hc => ?_⟩
  by_cases hik : i = k
  · subst hik; exact ⟨Int.le_refl _, fun _ => Nat.le_refl _⟩
  · have := h.2.2 i (by omega) hc
    exact ⟨by omega, fun e => by omega⟩
theorem Best.worse {T : Int} {k j : Nat} (h : Best st due T k (some j)) (hge : ¬ due k < due j) : Best st due T (k + 1) (some j) := by
  refine ⟨by have := h.1; omega, h.2.1, fun i hi hc => ?_⟩
  by_cases hik : i = k
  · subst hik; have := h.1; exact ⟨by omega, fun _ => by omega⟩
  · exact h.2.2 i (by omega) hc
/-- What look tells. -/
def LookPost (w : World) (st due : Nat → Int) (T : Int) (e : Ending) (w' : World) : Prop :=
  ∃ o, Best st due T 16 o ∧ (match o with
    | none => e = .returned (.tuple #[.agg #[.int .i64 0, .int .i64 0], .bool false])
    | some j => e = .returned (.tuple #[.agg #[.int .i64 j, .int .i64 (st j)], .bool true])) ∧ Same w w'
/-- The state while it looks. -/
structure LookS (w wr : World) (N : Nat) (now busy : Int) (st due : Nat → Int) (fs : Nat → Value) (nb rb : Nat) (x y : Int) : Prop where
  clk : Clk wr N now busy st due fs
  next : Blk wr nb #[.int .i64 x, .int .i64 y] 151
  res : Blk wr rb #[.int .i64 0, .int .i64 0] 151
  same : Same w wr
theorem LookS.put {wr : World} {nb rb : Nat} {x y : Int} (h : LookS w wr N now busy st due fs nb rb x y) (hn : w.heap.size ≤ nb) (hne : rb ≠ nb) (hN : N + 34 < nb) (x' y' : Int) : LookS w ((wr.setCell ⟨nb, 0, none⟩ (.int .i64 x')).setCell ⟨nb, 1, none⟩ (.int .i64 y')) N now busy st due fs nb rb x' y' := by
  have hc : Chg (· = nb) wr ((wr.setCell ⟨nb, 0, none⟩ (.int .i64 x')).setCell ⟨nb, 1, none⟩ (.int .i64 y')) := ((Chg.refl (· = nb) wr).setCell (p := ⟨nb, 0, none⟩) (.inl rfl) _).setCell (p := ⟨nb, 1, none⟩) (.inl rfl) _
  exact ⟨h.clk.chg hc (fun k h1 h2 e => by have e : k = nb := e; omega), (h.next.set 0 _).set 1 _, hc.blk h.res hne, h.same.trans' hc (fun i hi e => by have e : i = nb := e; omega)⟩
theorem clk_look (h : Clk w N now busy st due fs) (h0 : ∀ i, i < 16 → 0 ≤ st i ∧ st i ≤ 1000000000) (T : Int) :
    Calls Tryz.prog 81 #[.pointer (some ⟨N + 2, 0, none⟩), .pointer none, .int .i64 T] w (LookPost w st due T) := by
  have hlt := h.lt
  have hL : LookS w ((w.alloc (.cells #[.int .i64 0, .int .i64 0] 151)).alloc (.cells #[.int .i64 0, .int .i64 0] 151)) N now busy st due fs (w.heap.size + 1) w.heap.size 0 0 :=
    ⟨h.chg (S := fun _ => False) (((Chg.refl _ _).alloc _).alloc _) (fun _ _ _ x => x), Blk.neww (by simp) _ _, (Blk.new _ _ _).alloc _, ((Chg.refl _ _).alloc _).alloc _⟩
  have HL := Lib.hid hL
  have H0 := Lib.hid h0
  clear hL h0 h
  go_enter Tryz.func81, Tryz.ntmps81
  go_wp2_with fail
  generalize (w.alloc (.cells #[.int .i64 0, .int .i64 0] 151)).alloc (.cells #[.int .i64 0, .int .i64 0] 151) = W at *
  generalize hrb : w.heap.size = rb at *
  generalize hnb : rb + 1 = nb at *
  have HNB := Lib.hid (And.intro hrb hnb)
  clear hrb hnb
  go_loopw [9, 10, 14] (fun l f i wr => ∃ k : Nat, k ≤ 16 ∧ i = .int .i64 k ∧ ((l = .int .i64 0 ∧ f = .bool false ∧ Best st due T k none ∧ LookS w wr N now busy st due fs nb rb 0 0) ∨ ∃ j, l = .int .i64 (due j) ∧ f = .bool true ∧ Best st due T k (some j) ∧ LookS w wr N now busy st due fs nb rb j (st j))) (fun _ _ i _ => 16 - (intOf i).toNat)
  case atStart => exact ⟨0, by omega, rfl, .inl ⟨rfl, rfl, fun i hi => by omega, HL.out⟩⟩
  case round =>
    obtain ⟨k, hk, rfl, hrel⟩ := hrel
    rename World => wr
    by_cases hk16 : k < 16
    · rcases hrel with ⟨rfl, rfl, hbest, hL⟩ | ⟨j, rfl, rfl, hbest, hL⟩
      · obtain ⟨cs, hB, a0, a1, a2⟩ := hL.clk.slot (i := k) hk16
        have d0 := hB.cellAt _ a0
        have d1 := hB.cellAt _ a1
        have hx0 := H0.out k hk16
        have hb16 : decide ((k : Int) < 16) = true := decide_eq_true (by omega)
        have HC := Lib.hid (And.intro (hL.clk.st k hk16) (hL.clk.due k hk16))
        have HLR := Lib.hid hL
        have HBE := Lib.hid hbest
        clear hB a0 a1 a2 hL hbest
        by_cases hset : st k % 4 = 2
        · have hne : ((st k % 4 : Int) != 2) = false := by rw [bne_eq_false_iff_eq]; exact hset
          have HSET := Lib.hid hset
          clear hset
          by_cases hT : due k ≤ T
          · have hTb : decide (due k ≤ T) = true := decide_eq_true hT
            have r0 := HLR.out.next.cellAt 0 (v := .int .i64 0) rfl
            have r1 := HLR.out.next.cellAt 1 (v := .int .i64 0) rfl
            have y0 := HLR.out.next.free 0
            have y1 := HLR.out.next.free 1
            go_wp2_with fail
            refine (cell_load_at _ _ _ HC.out.1).mono ?_
            rintro e _ ⟨rfl, rfl⟩
            go_wp2_with fail
            refine (cell_load_at _ _ _ HC.out.2).mono ?_
            rintro e _ ⟨rfl, rfl⟩
            go_wp2_with fail
            have HP : Hid (LookS w ((wr.setCell ⟨nb, 0, none⟩ (.int .i64 k)).setCell ⟨nb, 1, none⟩ (.int .i64 (st k))) N now busy st due fs nb rb k (st k)) := Lib.hid (HLR.out.put (by have := HNB.out; omega) (by have := HNB.out; omega) (by have := HNB.out; omega) _ _)
            generalize (wr.setCell ⟨nb, 0, none⟩ (.int .i64 k)).setCell ⟨nb, 1, none⟩ (.int .i64 (st k)) = wr2 at *
            clear r0 r1 y0 y1 d0 d1 HC
            go_wp2_with fail
            go_roundw
            case rel => first | exact ⟨k + 1, by omega, by simp, .inr ⟨k, rfl, rfl, HBE.out.take ⟨HSET.out, hT⟩, HP.out⟩⟩ | exact ⟨k + 1, by omega, by simp, .inr ⟨k, rfl, HBE.out.take ⟨HSET.out, hT⟩, HP.out⟩⟩
            case measure => simp [intOf]; omega
          · have hTb : decide (due k ≤ T) = false := decide_eq_false hT
            go_wp2_with fail
            refine (cell_load_at _ _ _ HC.out.1).mono ?_
            rintro e _ ⟨rfl, rfl⟩
            go_wp2_with fail
            refine (cell_load_at _ _ _ HC.out.2).mono ?_
            rintro e _ ⟨rfl, rfl⟩
            go_wp2_with fail
            go_roundw
            case rel => first | exact ⟨k + 1, by omega, by simp, .inl ⟨rfl, rfl, HBE.out.skip (fun hc => by have := hc.2; omega), HLR.out⟩⟩ | exact ⟨k + 1, by omega, by simp, .inl ⟨trivial, trivial, HBE.out.skip (fun hc => by have := hc.2; omega), HLR.out⟩⟩ | exact ⟨k + 1, by omega, by simp, .inl ⟨HBE.out.skip (fun hc => by have := hc.2; omega), HLR.out⟩⟩
            case measure => simp [intOf]; omega
        · have hne : ((st k % 4 : Int) != 2) = true := by rw [bne_iff_ne]; exact hset
          have HSET := Lib.hid hset
          clear hset
          go_wp2_with fail
          refine (cell_load_at _ _ _ HC.out.1).mono ?_
          rintro e _ ⟨rfl, rfl⟩
          go_wp2_with fail
          go_roundw
          case rel => first | exact ⟨k + 1, by omega, by simp, .inl ⟨rfl, rfl, HBE.out.skip (fun hc => HSET.out hc.1), HLR.out⟩⟩ | exact ⟨k + 1, by omega, by simp, .inl ⟨trivial, trivial, HBE.out.skip (fun hc => HSET.out hc.1), HLR.out⟩⟩ | exact ⟨k + 1, by omega, by simp, .inl ⟨HBE.out.skip (fun hc => HSET.out hc.1), HLR.out⟩⟩
          case measure => simp [intOf]; omega
      · obtain ⟨cs, hB, a0, a1, a2⟩ := hL.clk.slot (i := k) hk16
        have d0 := hB.cellAt _ a0
        have d1 := hB.cellAt _ a1
        have hx0 := H0.out k hk16
        have hb16 : decide ((k : Int) < 16) = true := decide_eq_true (by omega)
        have HC := Lib.hid (And.intro (hL.clk.st k hk16) (hL.clk.due k hk16))
        have HLR := Lib.hid hL
        have HBE := Lib.hid hbest
        clear hB a0 a1 a2 hL hbest
        by_cases hset : st k % 4 = 2
        · have hne : ((st k % 4 : Int) != 2) = false := by rw [bne_eq_false_iff_eq]; exact hset
          have HSET := Lib.hid hset
          clear hset
          by_cases hT : due k ≤ T
          · have hTb : decide (due k ≤ T) = true := decide_eq_true hT
            by_cases hlt : due k < due j
            · have hltb : decide (due k < due j) = true := decide_eq_true hlt
              have r0 := HLR.out.next.cellAt 0 (v := .int .i64 j) rfl
              have r1 := HLR.out.next.cellAt 1 (v := .int .i64 (st j)) rfl
              have y0 := HLR.out.next.free 0
              have y1 := HLR.out.next.free 1
              go_wp2_with fail
              refine (cell_load_at _ _ _ HC.out.1).mono ?_
              rintro e _ ⟨rfl, rfl⟩
              go_wp2_with fail
              refine (cell_load_at _ _ _ HC.out.2).mono ?_
              rintro e _ ⟨rfl, rfl⟩
              go_wp2_with fail
              have HP : Hid (LookS w ((wr.setCell ⟨nb, 0, none⟩ (.int .i64 k)).setCell ⟨nb, 1, none⟩ (.int .i64 (st k))) N now busy st due fs nb rb k (st k)) := Lib.hid (HLR.out.put (by have := HNB.out; omega) (by have := HNB.out; omega) (by have := HNB.out; omega) _ _)
              generalize (wr.setCell ⟨nb, 0, none⟩ (.int .i64 k)).setCell ⟨nb, 1, none⟩ (.int .i64 (st k)) = wr2 at *
              clear r0 r1 y0 y1 d0 d1 HC
              go_wp2_with fail
              go_roundw
              case rel => first | exact ⟨k + 1, by omega, by simp, .inr ⟨k, rfl, rfl, HBE.out.better ⟨HSET.out, hT⟩ hlt, HP.out⟩⟩ | exact ⟨k + 1, by omega, by simp, .inr ⟨k, rfl, HBE.out.better ⟨HSET.out, hT⟩ hlt, HP.out⟩⟩
              case measure => simp [intOf]; omega
            · have hltb : decide (due k < due j) = false := decide_eq_false hlt
              go_wp2_with fail
              refine (cell_load_at _ _ _ HC.out.1).mono ?_
              rintro e _ ⟨rfl, rfl⟩
              go_wp2_with fail
              refine (cell_load_at _ _ _ HC.out.2).mono ?_
              rintro e _ ⟨rfl, rfl⟩
              go_wp2_with fail
              go_roundw
              case rel => first | exact ⟨k + 1, by omega, by simp, .inr ⟨j, rfl, rfl, HBE.out.worse (by omega), HLR.out⟩⟩ | exact ⟨k + 1, by omega, by simp, .inr ⟨j, rfl, HBE.out.worse (by omega), HLR.out⟩⟩
              case measure => simp [intOf]; omega
          · have hTb : decide (due k ≤ T) = false := decide_eq_false hT
            go_wp2_with fail
            refine (cell_load_at _ _ _ HC.out.1).mono ?_
            rintro e _ ⟨rfl, rfl⟩
            go_wp2_with fail
            refine (cell_load_at _ _ _ HC.out.2).mono ?_
            rintro e _ ⟨rfl, rfl⟩
            go_wp2_with fail
            go_roundw
            case rel => first | exact ⟨k + 1, by omega, by simp, .inr ⟨j, rfl, rfl, HBE.out.skip (fun hc => by have := hc.2; omega), HLR.out⟩⟩ | exact ⟨k + 1, by omega, by simp, .inr ⟨j, rfl, HBE.out.skip (fun hc => by have := hc.2; omega), HLR.out⟩⟩
            case measure => simp [intOf]; omega
        · have hne : ((st k % 4 : Int) != 2) = true := by rw [bne_iff_ne]; exact hset
          have HSET := Lib.hid hset
          clear hset
          go_wp2_with fail
          refine (cell_load_at _ _ _ HC.out.1).mono ?_
          rintro e _ ⟨rfl, rfl⟩
          go_wp2_with fail
          go_roundw
          case rel => first | exact ⟨k + 1, by omega, by simp, .inr ⟨j, rfl, rfl, HBE.out.skip (fun hc => HSET.out hc.1), HLR.out⟩⟩ | exact ⟨k + 1, by omega, by simp, .inr ⟨j, rfl, HBE.out.skip (fun hc => HSET.out hc.1), HLR.out⟩⟩
          case measure => simp [intOf]; omega
    · obtain rfl : k = 16 := by omega
      have hb16 : decide (((16 : Nat) : Int) < 16) = false := by decide
      rcases hrel with ⟨rfl, rfl, hbest, hL⟩ | ⟨j, rfl, rfl, hbest, hL⟩
      · have r0 := hL.next.cellAt 0 (v := .int .i64 0) rfl
        have r1 := hL.next.cellAt 1 (v := .int .i64 0) rfl
        have s0 := hL.res.cellAt 0 (v := .int .i64 0) rfl
        have s1 := hL.res.cellAt 1 (v := .int .i64 0) rfl
        have y0 := hL.res.free 0
        have y1 := hL.res.free 1
        have HLR := Lib.hid (And.intro hL hbest)
        clear hL hbest
        go_wp2_with fail
        obtain ⟨hL, hbest⟩ := HLR.out
        have hT5 := (hL.res.set 0 (.int .i64 0)).set 1 (.int .i64 0)
        have hc5 : Chg (· = rb) wr ((wr.setCell ⟨rb, 0, none⟩ (.int .i64 0)).setCell ⟨rb, 1, none⟩ (.int .i64 0)) := ((Chg.refl (· = rb) wr).setCell (p := ⟨rb, 0, none⟩) (.inl rfl) _).setCell (p := ⟨rb, 1, none⟩) (.inl rfl) _
        have hn := HNB.out
        exact bodyPost_ret (results_row_tmp (p := 6) (u := 7) (ty := 151) rfl _ _ rb 151 #[.int .i64 0, .int .i64 0] (0, 0) _ rfl hT5 Tryz.underlying151 rfl (by kernel_rfl)) rfl ⟨none, hbest, rfl, hL.same.trans' hc5 (fun i hi e => by have e : i = rb := e; omega)⟩
      · have r0 := hL.next.cellAt 0 (v := .int .i64 j) rfl
        have r1 := hL.next.cellAt 1 (v := .int .i64 (st j)) rfl
        have s0 := hL.res.cellAt 0 (v := .int .i64 0) rfl
        have s1 := hL.res.cellAt 1 (v := .int .i64 0) rfl
        have y0 := hL.res.free 0
        have y1 := hL.res.free 1
        have HLR := Lib.hid (And.intro hL hbest)
        clear hL hbest
        go_wp2_with fail
        obtain ⟨hL, hbest⟩ := HLR.out
        have hT5 := (hL.res.set 0 (.int .i64 j)).set 1 (.int .i64 (st j))
        have hc5 : Chg (· = rb) wr ((wr.setCell ⟨rb, 0, none⟩ (.int .i64 j)).setCell ⟨rb, 1, none⟩ (.int .i64 (st j))) := ((Chg.refl (· = rb) wr).setCell (p := ⟨rb, 0, none⟩) (.inl rfl) _).setCell (p := ⟨rb, 1, none⟩) (.inl rfl) _
        have hn := HNB.out
        exact bodyPost_ret (results_row_tmp (p := 6) (u := 7) (ty := 151) rfl _ _ rb 151 #[.int .i64 j, .int .i64 (st j)] (0, 0) _ rfl hT5 Tryz.underlying151 rfl (by kernel_rfl)) rfl ⟨some j, hbest, rfl, hL.same.trans' hc5 (fun i hi e => by have e : i = rb := e; omega)⟩
end Go.Proofs.YtgljjgmfhememaaGreatDoor
