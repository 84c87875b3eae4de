/- A list of three functions closed: what Close hands over. Conditions: none. -/
import Derived.Test.YtgljjgmfhememaaGreatDoorJoinJ
import Derived.RegionTactic
import Derived.BigRegion
namespace Go.Proofs.YtgljjgmfhememaaGreatDoor
open Go Go.RowKit
set_option maxRecDepth 100000
set_option maxHeartbeats 2000000
theorem reverse_three (w : World) (b c : Nat) (cur : Array Value) (F1 F2 F3 : Nat) (g1 g2 g3 : Array Value) (T : TypeId) (h : Blk w b cur T) (e0 : cur[0]? = some (.func (.func F3) #[] g3)) (e1 : cur[1]? = some (.func (.func F2) #[] g2)) (e2 : cur[2]? = some (.func (.func F1) #[] g1)) : Calls Tryz.prog 206 #[.slice (some ⟨b, 0, none⟩) 3 c] w fun e w' => e = .returned (.tuple #[]) ∧ Blk w' b ((cur.setIfInBounds 0 (.func (.func F1) #[] g1)).setIfInBounds 2 (.func (.func F3) #[] g3)) T ∧ Chg (· = b) w w' := by
  have d0 := h.cellAt 0 e0
  have d2 := h.cellAt 2 e2
  have z0 := h.free 0
  have z2 := h.free 2
  have H := Lib.hid h
  clear e0 e1 e2 h
  go_enter Tryz.func206, Tryz.ntmps206
  go_wp2_with fail
  refine wp_loop_rounds 2 ?_; rw [rounds_succ]
  go_wp2_with fail
  go_region
  have hR : Blk ((w.drew.setCell ⟨b, 0, none⟩ (.func (.func F1) #[] g1)).setCell ⟨b, 2, none⟩ (.func (.func F3) #[] g3)) b ((cur.setIfInBounds 0 (.func (.func F1) #[] g1)).setIfInBounds 2 (.func (.func F3) #[] g3)) T := (H.out.drew.set 0 _).set 2 _
  have hC : Chg (· = b) w ((w.drew.setCell ⟨b, 0, none⟩ (.func (.func F1) #[] g1)).setCell ⟨b, 2, none⟩ (.func (.func F3) #[] g3)) := (((Chg.refl (· = b) w).drew).setCell (p := ⟨b, 0, none⟩) (.inl rfl) _).setCell (p := ⟨b, 2, none⟩) (.inl rfl) _
  have HR := Lib.hid hR
  have HC := Lib.hid hC
  clear hR hC
  trace_state
  go_wp2_with fail
  rw [rounds_succ]
  go_wp2_with fail
  go_end0
  exact ⟨rfl, HR.out, HC.out⟩
theorem Chg.of_grown_at {w w' : World} {q : Nat} (h : w.grownBy w' (some q)) : Chg (· = q) w w' := ⟨h.os, h.tape, h.output, h.size, fun k hk hn => h.block k hk (fun e => hn (by simpa using e))⟩
/-- What Close hands over where three functions stand. -/
theorem flist_row_three (w : World) (b lb hb pb : Nat) (last head : Int) (pl : Array Value) (F1 F2 F3 : Nat) (g1 g2 g3 : Array Value) (h : FList w b lb hb pb last head pl) (hst : Stands pl [(F1, g1), (F2, g2), (F3, g3)]) :
    Calls Tryz.prog 185 #[.pointer (some ⟨b, 0, none⟩), .int .i64 3] w fun e w' => ∃ rb c, e = .returned (.slice (some ⟨rb, 0, none⟩) 3 c) ∧ (∃ cs T, Blk w' rb cs T ∧ cs[0]? = some (.func (.func F1) #[] g1) ∧ cs[1]? = some (.func (.func F2) #[] g2) ∧ cs[2]? = some (.func (.func F3) #[] g3)) ∧ w.heap.size ≤ rb ∧ Same w w' := by
  have hF := Lib.hid h
  have c2 := h.blk.cellAt 2 (v := .slice (some ⟨pb, 0, none⟩) 65 65) rfl
  have s2 := h.places.cellAt 2 (v := .func (.func F1) #[] g1) (hst 0 (by simp)).1
  have s3 := h.places.cellAt 3 (v := .int .i64 0) (hst 0 (by simp)).2
  have s4 := h.places.cellAt 4 (v := .func (.func F2) #[] g2) (hst 1 (by simp)).1
  have s5 := h.places.cellAt 5 (v := .int .i64 1) (hst 1 (by simp)).2
  have s6 := h.places.cellAt 6 (v := .func (.func F3) #[] g3) (hst 2 (by simp)).1
  have s7 := h.places.cellAt 7 (v := .int .i64 2) (hst 2 (by simp)).2
  have HS := Lib.hid hst
  obtain ⟨i0, hi, hz0, hz1, hz2⟩ := info_parts (P := Tryz.prog) (e := 131) (z := .nilFunc) (size := 1) (bytes := 8) (by kernel_rfl)
  clear h hst
  go_enter Tryz.func185, Tryz.ntmps185
  go_wp2_with fail
  refine wp_loop_rounds 4 ?_; rw [rounds_succ]
  go_wp2_with (at_builtin; refine wpList_append_own _ rfl _ _ 252 rfl w.heap.size 131 i0 .nilFunc 1 8 Tryz.underlying252 hi hz0 hz1 hz2 rfl (by decide) _ _ _ rfl (World.ownsRow_nil _ _ _ _) ⟨w.heap.size, 0, none⟩ 1 1 [.func (.func F3) #[] g3] rfl rfl ?a1 ?a2 ?a3 ?a4 ?a5 ?a6)
  case a1 =>
    intro j u hj
    rcases j with _ | j
    · simp at hj; subst hj; exact (Blk.new w _ _).cellAt 0 rfl
    · simp at hj
  case a2 => intro u hu; simp at hu; subst hu; rfl
  case a3 => decide
  case a4 => decide
  case a5 => simp
  case a6 =>
    intro v1 w1 ho1 hg1 hn1
    have k1 := ho1
    obtain ⟨_, ⟨rfl, _⟩ | ⟨q1, cp1, cur1, rfl, hgb1, hcell1, _, _, hcs1, htk1⟩⟩ := ho1
    · exact absurd rfl hn1
    have m1 : Same w w1 := (Chg.alloc (Chg.refl _ _) _).trans (Chg.of_grown hg1)
    have f1 := hF.out.chg m1 (fun x => x) (fun x => x) (fun x => x) (fun x => x)
    clear c2 s2 s3 s4 s5 s6 s7
    have d1 := f1.blk.cellAt 2 (v := .slice (some ⟨pb, 0, none⟩) 65 65) rfl
    have t12 := f1.places.cellAt 2 (v := .func (.func F1) #[] g1) (HS.out 0 (by simp)).1
    have t13 := f1.places.cellAt 3 (v := .int .i64 0) (HS.out 0 (by simp)).2
    have t14 := f1.places.cellAt 4 (v := .func (.func F2) #[] g2) (HS.out 1 (by simp)).1
    have t15 := f1.places.cellAt 5 (v := .int .i64 1) (HS.out 1 (by simp)).2
    have t16 := f1.places.cellAt 6 (v := .func (.func F3) #[] g3) (HS.out 2 (by simp)).1
    have t17 := f1.places.cellAt 7 (v := .int .i64 2) (HS.out 2 (by simp)).2
    have HK1 := Lib.hid (And.intro k1 m1)
    clear k1 f1 hg1 hcell1 htk1 hcs1 hn1
    go_wp2_with fail
    rw [rounds_succ]
    obtain ⟨k1, m1⟩ := HK1.out
    go_wp2_with (at_builtin; refine wpList_append_own _ rfl _ _ 252 rfl w.heap.size 131 i0 .nilFunc 1 8 Tryz.underlying252 hi hz0 hz1 hz2 rfl (by decide) _ _ _ rfl (k1.alloc _) ⟨w1.heap.size, 0, none⟩ 1 1 [.func (.func F2) #[] g2] rfl rfl ?b1 ?b2 ?b3 ?b4 ?b5 ?b6)
    case b1 =>
      intro j u hj
      rcases j with _ | j
      · simp at hj; subst hj; exact (Blk.new w1 _ _).cellAt 0 rfl
      · simp at hj
    case b2 => intro u hu; simp at hu; subst hu; rfl
    case b3 => decide
    case b4 => decide
    case b5 => simp; have := m1.size; omega
    case b6 =>
      intro v2 w2 ho2 hg2 hn2
      have k2 := ho2
      obtain ⟨_, ⟨rfl, _⟩ | ⟨q2, cp2, cur2, rfl, hgb2, hcell2, _, _, hcs2, htk2⟩⟩ := ho2
      · exact absurd rfl hn2
      have m2 : Same w w2 := (m1.alloc _).trans' (Chg.of_grown_at (q := q1) hg2) (fun i hi e => by have : i = q1 := e; omega)
      have f2 := hF.out.chg m2 (fun x => x) (fun x => x) (fun x => x) (fun x => x)
      clear d1 t12 t13 t14 t15 t16 t17
      have d2 := f2.blk.cellAt 2 (v := .slice (some ⟨pb, 0, none⟩) 65 65) rfl
      have t22 := f2.places.cellAt 2 (v := .func (.func F1) #[] g1) (HS.out 0 (by simp)).1
      have t23 := f2.places.cellAt 3 (v := .int .i64 0) (HS.out 0 (by simp)).2
      have t24 := f2.places.cellAt 4 (v := .func (.func F2) #[] g2) (HS.out 1 (by simp)).1
      have t25 := f2.places.cellAt 5 (v := .int .i64 1) (HS.out 1 (by simp)).2
      have t26 := f2.places.cellAt 6 (v := .func (.func F3) #[] g3) (HS.out 2 (by simp)).1
      have t27 := f2.places.cellAt 7 (v := .int .i64 2) (HS.out 2 (by simp)).2
      have HK2 := Lib.hid (And.intro k2 m2)
      clear k2 f2 hg2 hcell2 htk2 hcs2 hn2
      go_wp2_with fail
      rw [rounds_succ]
      obtain ⟨k2, m2⟩ := HK2.out
      go_wp2_with (at_builtin; refine wpList_append_own _ rfl _ _ 252 rfl w.heap.size 131 i0 .nilFunc 1 8 Tryz.underlying252 hi hz0 hz1 hz2 rfl (by decide) _ _ _ rfl (k2.alloc _) ⟨w2.heap.size, 0, none⟩ 1 1 [.func (.func F1) #[] g1] rfl rfl ?e1 ?e2 ?e3 ?e4 ?e5 ?e6)
      case e1 =>
        intro j u hj
        rcases j with _ | j
        · simp at hj; subst hj; exact (Blk.new w2 _ _).cellAt 0 rfl
        · simp at hj
      case e2 => intro u hu; simp at hu; subst hu; rfl
      case e3 => decide
      case e4 => decide
      case e5 => simp; have := m2.size; omega
      case e6 =>
        intro v3 w3 ho3 hg3 hn3
        have k3 := ho3
        obtain ⟨_, ⟨rfl, _⟩ | ⟨q3, cp3, cur3, rfl, hgb3, hcell3, _, _, hcs3, htk3⟩⟩ := ho3
        · exact absurd rfl hn3
        have m3 : Same w w3 := (m2.alloc _).trans' (Chg.of_grown_at (q := q2) hg3) (fun i hi e => by have : i = q2 := e; omega)
        have f3 := hF.out.chg m3 (fun x => x) (fun x => x) (fun x => x) (fun x => x)
        clear d2 t22 t23 t24 t25 t26 t27
        have d3 := f3.blk.cellAt 2 (v := .slice (some ⟨pb, 0, none⟩) 65 65) rfl
        have t32 := f3.places.cellAt 2 (v := .func (.func F1) #[] g1) (HS.out 0 (by simp)).1
        have t33 := f3.places.cellAt 3 (v := .int .i64 0) (HS.out 0 (by simp)).2
        have t34 := f3.places.cellAt 4 (v := .func (.func F2) #[] g2) (HS.out 1 (by simp)).1
        have t35 := f3.places.cellAt 5 (v := .int .i64 1) (HS.out 1 (by simp)).2
        have t36 := f3.places.cellAt 6 (v := .func (.func F3) #[] g3) (HS.out 2 (by simp)).1
        have t37 := f3.places.cellAt 7 (v := .int .i64 2) (HS.out 2 (by simp)).2
        have hB : Blk w3 q3 cur3 131 := hcell3
        have e0 : cur3[0]? = some (.func (.func F3) #[] g3) := by
          rw [← Array.getElem?_toList]
          have := congrArg (fun l : List Value => l[0]?) htk3
          simpa using this
        have e1 : cur3[1]? = some (.func (.func F2) #[] g2) := by
          rw [← Array.getElem?_toList]
          have := congrArg (fun l : List Value => l[1]?) htk3
          simpa using this
        have e2 : cur3[2]? = some (.func (.func F1) #[] g1) := by
          rw [← Array.getElem?_toList]
          have := congrArg (fun l : List Value => l[2]?) htk3
          simpa using this
        have HB := Lib.hid (And.intro hB (And.intro e0 (And.intro e1 (And.intro e2 m3))))
        clear hB e0 e1 e2 k3 f3 hg3 hcell3 htk3 hcs3 hn3 m3
        go_wp2_with fail
        rw [rounds_succ]
        go_wp2_with fail
        obtain ⟨hB, e0, e1, e2, m3⟩ := HB.out
        refine (reverse_three _ _ _ _ _ _ _ _ _ _ _ hB e0 e1 e2).mono ?_
        rintro e w4 ⟨rfl, hB4, c4⟩
        have HB4 := Lib.hid (And.intro hB4 c4)
        clear hB4 c4 hB d3 t32 t33 t34 t35 t36 t37
        go_wp2_with fail
        go_ret
        obtain ⟨hB4, c4⟩ := HB4.out
        have l0 := (Array.getElem?_eq_some_iff.1 e0).1
        have l2 := (Array.getElem?_eq_some_iff.1 e2).1
        refine ⟨q3, cp3, rfl, ⟨_, _, hB4, ?_, ?_, ?_⟩, hgb3, m3.trans' c4 (fun i hi e => by omega)⟩
        · rw [Array.getElem?_setIfInBounds_ne (by omega), Array.getElem?_setIfInBounds_self_of_lt (by omega)]
        · rw [Array.getElem?_setIfInBounds_ne (by omega), Array.getElem?_setIfInBounds_ne (by omega)]; exact e1
        · rw [Array.getElem?_setIfInBounds_self_of_lt (by simp; omega)]
end Go.Proofs.YtgljjgmfhememaaGreatDoor
