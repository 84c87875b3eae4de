/- (*clock.Clock).Set with a nil thread: the first free slot. Conditions: none. -/
import Derived.Test.YtgljjgmfhememaaGreatDoorClk
namespace Go.Proofs.YtgljjgmfhememaaGreatDoor
open Go Go.RowKit
set_option maxRecDepth 100000
set_option maxHeartbeats 1000000
theorem results_row_tmp {P : Program} {fn : Func} {p u : Tmp} {ty : TypeId} (h : fn.results = #[.cell p ty, .tmp u]) (tmps : Array Value) (w : World) (g : Nat) (t : TypeId) (cs : Array Value) (fr : Nat × Nat) (d : TypeDesc)
    (hp : tmps.getD p undef = .pointer (some ⟨g, 0, none⟩)) (hg : w.heap[g]? = some (.cells cs t fr))
    (hu : P.underlying ty = some d) (hd : (match d with | .struct _ | .array _ _ => true | _ => false) = true) (hi : (P.info? ty).map (·.size) = some cs.size) :
    (results fn tmps).run P w = .ok (.tuple #[.agg cs, tmps.getD u undef]) w := by
  have hp' : tmps[p]?.getD undef = .pointer (some ⟨g, 0, none⟩) := by simpa using hp
  simp [results, h, hp', asAddr, run_loadVar_row w g t ty cs fr d hg hu hd hi]
def upd {α : Type} (f : Nat → α) (j : Nat) (x : α) (i : Nat) : α := if i = j then x else f i
theorem upd_upd {α : Type} (f : Nat → α) (j : Nat) (x y : α) : upd (upd f j x) j y = upd f j y := by
  funext i
  unfold upd
  split <;> rfl
variable {w : World} {N : Nat} {now busy : Int} {st due : Nat → Int} {fs : Nat → Value}
theorem Clk.slot (h : Clk w N now busy st due fs) {i : Nat} (hi : i < 16) : ∃ cs, Blk w (N + 2) cs 60 ∧ cs[2 + i * 3]? = some (.pointer (some ⟨N + 3 + 2 * i, 0, none⟩)) ∧ cs[2 + i * 3 + 1]? = some (.pointer (some ⟨N + 4 + 2 * i, 0, none⟩)) ∧ cs[2 + i * 3 + 2]? = some (fs i) := by
  obtain ⟨cs, hB, _, _, _, hr⟩ := h.blk
  exact ⟨cs, hB, hr i hi⟩
/-- A slot's state turns. -/
theorem Clk.setSt {w' : World} (h : Clk w N now busy st due fs) {j : Nat} (hj : j < 16) {x : Int} (hc : Chg (· = N + 3 + 2 * j) w w') (hx : CellAt w' (N + 3 + 2 * j) x) : Clk w' N now busy (upd st j x) due fs := by
  obtain ⟨cs, hB, hr⟩ := h.blk
  refine ⟨⟨cs, hc.blk hB (by omega), hr⟩, h.now.chg hc (by omega), h.busy.chg hc (by omega), fun i hi => ?_, fun i hi => (h.due i hi).chg hc (by omega)⟩
  unfold upd
  by_cases hij : i = j
  · subst hij; simpa using hx
  · rw [if_neg hij]; exact (h.st i hi).chg hc (by omega)
theorem Clk.setDue {w' : World} (h : Clk w N now busy st due fs) {j : Nat} (hj : j < 16) {x : Int} (hc : Chg (· = N + 4 + 2 * j) w w') (hx : CellAt w' (N + 4 + 2 * j) x) : Clk w' N now busy st (upd due j x) fs := by
  obtain ⟨cs, hB, hr⟩ := h.blk
  refine ⟨⟨cs, hc.blk hB (by omega), hr⟩, h.now.chg hc (by omega), h.busy.chg hc (by omega), fun i hi => (h.st i hi).chg hc (by omega), fun i hi => ?_⟩
  unfold upd
  by_cases hij : i = j
  · subst hij; simpa using hx
  · rw [if_neg hij]; exact (h.due i hi).chg hc (by omega)
theorem Clk.setF (h : Clk w N now busy st due fs) {j : Nat} (hj : j < 16) (f : Value) : Clk (w.setCell ⟨N + 2, 2 + j * 3 + 2, none⟩ f) N now busy st due (upd fs j f) := by
  obtain ⟨cs, hB, hsz, h0, h1, hr⟩ := h.blk
  have hc : Chg (· = N + 2) w (w.setCell ⟨N + 2, 2 + j * 3 + 2, none⟩ f) := (Chg.refl (· = N + 2) w).setCell (p := ⟨N + 2, 2 + j * 3 + 2, none⟩) (.inl rfl) _
  refine ⟨⟨_, hB.set _ f, by simpa using hsz, ?_, ?_, fun i hi => ?_⟩, h.now.chg hc (by omega), h.busy.chg hc (by omega), fun i hi => (h.st i hi).chg hc (by omega), fun i hi => (h.due i hi).chg hc (by omega)⟩
  · rw [Array.getElem?_setIfInBounds_ne (by omega)]; exact h0
  · rw [Array.getElem?_setIfInBounds_ne (by omega)]; exact h1
  · obtain ⟨a, b, c⟩ := hr i hi
    refine ⟨?_, ?_, ?_⟩
    · rw [Array.getElem?_setIfInBounds_ne (by omega)]; exact a
    · rw [Array.getElem?_setIfInBounds_ne (by omega)]; exact b
    · unfold upd
      by_cases hij : i = j
      · subst hij; rw [if_pos rfl, Array.getElem?_setIfInBounds_self_of_lt (by omega)]
      · rw [if_neg hij, Array.getElem?_setIfInBounds_ne (by omega)]; exact c
def Turned (N : Nat) (k : Nat) : Prop := N ≤ k ∧ k < N + 35
theorem clk_set (h : Clk w N now busy st due fs) (j : Nat) (hj : j < 16) (h0 : ∀ i, i ≤ j → 0 ≤ st i ∧ st i ≤ 1000000000) (hfree : st j % 4 = 0) (hlow : ∀ i, i < j → ¬ st i % 4 = 0) (d : Int) (d0 : 0 ≤ d) (d1 : d ≤ 4611686018427387904) (F : Nat) (cap : Array Value) :
    Calls Tryz.prog 71 #[.pointer (some ⟨N + 2, 0, none⟩), .pointer none, .int .i64 d, .func (.func F) #[] cap] w fun e w' =>
      e = .returned (.tuple #[.agg #[.int .i64 j, .int .i64 (st j + 2)], .int .i64 0]) ∧ Clk w' N now busy (upd st j (st j + 2)) (upd due j d) (upd fs j (.func (.func F) #[] cap)) ∧ Chg (Turned N) w w' := by
  have hlt := h.lt
  have hA : Clk (w.alloc (.cells #[.int .i64 0, .int .i64 0] 151)) N now busy st due fs := h.chg (S := fun _ => False) ((Chg.refl _ _).alloc _) (fun _ _ _ x => x)
  have hT : Blk (w.alloc (.cells #[.int .i64 0, .int .i64 0] 151)) w.heap.size #[.int .i64 0, .int .i64 0] 151 := Blk.new _ _ _
  have sA : Same w (w.alloc (.cells #[.int .i64 0, .int .i64 0] 151)) := (Chg.refl _ _).alloc _
  have hnn : ∀ w, (binOp .eql 55 (.func (.func F) #[] cap) .nilFunc).run Tryz.prog w = .ok (.bool false) w := fun w => by kernel_rfl
  have e0 : decide (d < 0) = false := by simp; omega
  have e1 : decide (4611686018427387904 < d) = false := by simp; omega
  have HS := Lib.hid (And.intro h0 (And.intro hfree hlow))
  clear h0 hfree hlow h
  go_enter Tryz.func71, Tryz.ntmps71
  go_wp2_with fail
  generalize w.alloc (.cells #[.int .i64 0, .int .i64 0] 151) = W at *
  generalize hr : w.heap.size = r at *
  have HR := Lib.hid hr
  have HA := Lib.hid (And.intro hA (And.intro hT sA))
  clear hr hA hT sA
  refine (clk_made HA.out.1).mono ?_
  rintro e _ ⟨rfl, rfl⟩
  go_wp2_with fail
  go_loopw [28] (fun i wr => ∃ k : Nat, k ≤ j ∧ i = .int .i64 k ∧ wr = W) (fun i _ => j + 1 - (intOf i).toNat)
  case atStart => exact ⟨0, by omega, rfl, rfl⟩
  case round =>
    obtain ⟨k, hk, rfl, rfl⟩ := hrel
    obtain ⟨cs, hB, c0, c1, c2⟩ := HA.out.1.slot (i := k) (by omega)
    have d0' := hB.cellAt _ c0
    have d1' := hB.cellAt _ c1
    have d2' := hB.cellAt _ c2
    have z2' := hB.free (2 + k * 3 + 2)
    have hb16 : decide ((k : Int) < 16) = true := by simp; omega
    have hx0 := HS.out.1 k hk
    by_cases hkj : k < j
    · have hne : ((st k % 4 : Int) != 0) = true := by rw [bne_iff_ne]; exact HS.out.2.2 k hkj
      have hst := HA.out.1.st k (by omega)
      generalize st k = x at *
      have HX := Lib.hid hst
      clear hB c0 c1 c2 d1' d2' z2' hst
      go_wp2_with fail
      refine (cell_load_at _ _ _ HX.out).mono ?_
      rintro e _ ⟨rfl, rfl⟩
      go_wp2_with fail
      go_roundw
      case rel => first | exact ⟨k + 1, by omega, by simp, rfl⟩ | exact ⟨k + 1, by omega, by simp, trivial⟩ | exact ⟨k + 1, by omega, by simp⟩
      case measure => simp [intOf]; omega
    · obtain rfl : k = j := by omega
      have hne : ((st k % 4 : Int) != 0) = false := by rw [bne_eq_false_iff_eq]; exact HS.out.2.1
      have hst := HA.out.1.st k (by omega)
      have HX := Lib.hid hst
      have hw1 : wrap64 (st k + 1) = st k + 1 := by unfold wrap64; omega
      have hw2 : wrap64 (st k + 2) = st k + 2 := by unfold wrap64; omega
      generalize hxs : st k = x at *
      have HXS := Lib.hid hxs
      have C0 := Lib.hid c0
      clear c0 c1 c2 d2' z2' hst hxs hB hw1 hw2 d1'
      go_wp2_with fail
      refine (cell_load_at _ _ _ HX.out).mono ?_
      rintro e _ ⟨rfl, rfl⟩
      go_wp2_with fail
      refine (cas_ok _ _ _ _ HX.out).mono ?_
      rintro e w1 ⟨rfl, q1, q2⟩
      have hK1 := HA.out.1.setSt hj q2 q1
      have hT1 := q2.blk HA.out.2.1 (by have := HR.out; omega)
      have H1 := Lib.hid (And.intro hK1 (And.intro hT1 (HA.out.2.2.mono (S' := Turned N) (fun _ _ x => x.elim) |>.trans (q2.mono (fun i _ e => by have e : i = _ := e; unfold Turned; omega)))))
      obtain ⟨cs1, hB1, a0, a1, a2⟩ := hK1.slot hj
      have b2 := hB1.cellAt _ a2
      have y2 := hB1.free (2 + k * 3 + 2)
      have hK2 := hK1.setF hj (.func (.func F) #[] cap)
      obtain ⟨cs2, hB2, g0, g1, g2⟩ := hK2.slot hj
      have p1 := hB2.cellAt _ g1
      have hT2 := hT1.set_other (a := ⟨N + 2, 2 + k * 3 + 2, none⟩) (by show N + 2 ≠ r; have := HR.out; omega) (.func (.func F) #[] cap)
      have hc2 : Chg (Turned N) w (w1.setCell ⟨N + 2, 2 + k * 3 + 2, none⟩ (.func (.func F) #[] cap)) := H1.out.2.2.setCell (p := ⟨N + 2, 2 + k * 3 + 2, none⟩) (.inl (by show Turned N (N + 2); unfold Turned; omega)) _
      have H2 := Lib.hid (And.intro hK2 (And.intro hT2 hc2))
      clear q1 q2 hK1 hT1 hB1 a0 a1 a2 d0' hK2 hB2 g0 g1 g2 hT2 hc2
      generalize fs k = f0 at *
      go_wp2_with fail
      generalize w1.setCell ⟨N + 2, 2 + k * 3 + 2, none⟩ (.func (.func F) #[] cap) = w2 at *
      clear b2 y2
      refine (store_ok _ _ _ d (H2.out.1.due k hj)).mono ?_
      rintro e w3 ⟨rfl, q1, q2⟩
      have hK3 := H2.out.1.setDue hj q2 q1
      have hT3 := q2.blk H2.out.2.1 (by have := HR.out; omega)
      have hc3 : Chg (Turned N) w w3 := H2.out.2.2.trans (q2.mono (fun i _ e => by have e : i = _ := e; unfold Turned; omega))
      obtain ⟨cs3, hB3, a0, a1, a2⟩ := hK3.slot hj
      have p0 := hB3.cellAt _ a0
      have H3 := Lib.hid (And.intro hK3 (And.intro hT3 hc3))
      clear q1 q2 hK3 hT3 hc3 hB3 a0 a1 a2 p1
      go_wp2_with fail
      have hX3 : CellAt w3 (N + 3 + 2 * k) (x + 1) := by
        have := H3.out.1.st k hj
        unfold upd at this
        simpa using this
      refine (store_ok _ _ _ (x + 2) hX3).mono ?_
      rintro e w4 ⟨rfl, q1, q2⟩
      have hK4 := H3.out.1.setSt hj q2 q1
      have hT4 := q2.blk H3.out.2.1 (by have := HR.out; omega)
      have hc4 : Chg (Turned N) w w4 := H3.out.2.2.trans (q2.mono (fun i _ e => by have e : i = _ := e; unfold Turned; omega))
      have r0 := hT4.cellAt 0 (v := .int .i64 0) rfl
      have r1 := hT4.cellAt 1 (v := .int .i64 0) rfl
      have y0 := hT4.free 0
      have y1 := hT4.free 1
      have H4 := Lib.hid (And.intro hK4 (And.intro hT4 hc4))
      clear q1 q2 hK4 hT4 hc4 p0 hX3
      go_wp2_with fail
      obtain ⟨hK4, hT4, hc4⟩ := H4.out
      have hr := HR.out
      have hT5 := (hT4.set 0 (.int .i64 k)).set 1 (.int .i64 (x + 2))
      have hc5 : Chg (fun k => k = r) w4 ((w4.setCell ⟨r, 0, none⟩ (.int .i64 k)).setCell ⟨r, 1, none⟩ (.int .i64 (x + 2))) := ((Chg.refl (· = r) w4).setCell (p := ⟨r, 0, none⟩) (.inl rfl) _).setCell (p := ⟨r, 1, none⟩) (.inl rfl) _
      have hK5 := hK4.chg hc5 (fun q h1 h2 e => by have e : q = r := e; omega)
      refine bodyPost_ret (results_row_tmp (p := 8) (u := 9) (ty := 151) rfl _ _ r 151 #[.int .i64 k, .int .i64 (x + 2)] (0, 0) _ rfl hT5 Tryz.underlying151 rfl (by kernel_rfl)) rfl ⟨?_, ?_, ?_⟩
      · rw [HXS.out]; rfl
      · rw [HXS.out]
        rw [upd_upd] at hK5
        exact hK5
      · exact hc4.trans' hc5 (fun i hi e => by have e : i = r := e; omega)
end Go.Proofs.YtgljjgmfhememaaGreatDoor
