/- Package clock with a nil thread, one goroutine: the clock in memory; New, made, Now. Conditions: none. -/
import Derived.Test.YtgljjgmfhememaaGreatDoorCell
import Derived.Test.YtgljjgmfhememaaGreatDoorMore
import Derived.Test.YtgljjgmfhememaaGreatDoorFutC
import Derived.Laws.EntriesVeiled
namespace Go.Proofs.YtgljjgmfhememaaGreatDoor
open Go Go.RowKit
set_option maxRecDepth 100000
set_option maxHeartbeats 1000000
/-- A clock whose first block is N. -/
structure Clk (w : World) (N : Nat) (now busy : Int) (st due : Nat → Int) (fs : Nat → Value) : Prop where
  blk : ∃ cs, Blk w (N + 2) cs 60 ∧ cs.size = 50 ∧ cs[0]? = some (.pointer (some ⟨N, 0, none⟩)) ∧ cs[1]? = some (.pointer (some ⟨N + 1, 0, none⟩)) ∧
    ∀ i, i < 16 → cs[2 + i * 3]? = some (.pointer (some ⟨N + 3 + 2 * i, 0, none⟩)) ∧ cs[2 + i * 3 + 1]? = some (.pointer (some ⟨N + 4 + 2 * i, 0, none⟩)) ∧ cs[2 + i * 3 + 2]? = some (fs i)
  now : CellAt w N now
  busy : CellAt w (N + 1) busy
  st : ∀ i, i < 16 → CellAt w (N + 3 + 2 * i) (st i)
  due : ∀ i, i < 16 → CellAt w (N + 4 + 2 * i) (due i)
variable {w : World} {N : Nat} {now busy : Int} {st due : Nat → Int} {fs : Nat → Value}
theorem Clk.chg {S : Nat → Prop} {w' : World} (h : Clk w N now busy st due fs) (hc : Chg S w w') (hn : ∀ k, N ≤ k → k < N + 35 → ¬ S k) : Clk w' N now busy st due fs := by
  obtain ⟨cs, hb, hr⟩ := h.blk
  exact ⟨⟨cs, hc.blk hb (hn _ (by omega) (by omega)), hr⟩, h.now.chg hc (hn _ (by omega) (by omega)), h.busy.chg hc (hn _ (by omega) (by omega)), fun i hi => (h.st i hi).chg hc (hn _ (by omega) (by omega)), fun i hi => (h.due i hi).chg hc (hn _ (by omega) (by omega))⟩
theorem Clk.lt (h : Clk w N now busy st due fs) : N + 34 < w.heap.size := by have := Blk.lt (h.due 15 (by omega)); omega
theorem clk_made (h : Clk w N now busy st due fs) : Calls Tryz.prog 78 #[.pointer (some ⟨N + 2, 0, none⟩)] w fun e w' => e = .returned (.bool true) ∧ w = w' := by
  obtain ⟨cs, hb, _, h0, _⟩ := h.blk
  have c0 := hb.cellAt 0 h0
  clear h h0 hb
  go_enter Tryz.func78, Tryz.ntmps78
  go_wp2
  go_ret
  exact ⟨rfl, rfl⟩
/-- None: nil, or one that New did not make. -/
def NoClk (w : World) (p : Option Addr) : Prop := p = none ∨ ∃ b cs, p = some ⟨b, 0, none⟩ ∧ Blk w b cs 60 ∧ cs[0]? = some (.pointer none)
theorem clk_made_none (p : Option Addr) (h : NoClk w p) : Calls Tryz.prog 78 #[.pointer p] w fun e w' => e = .returned (.bool false) ∧ w = w' := by
  rcases h with rfl | ⟨b, cs, rfl, hb, h0⟩
  · go_enter Tryz.func78, Tryz.ntmps78
    go_wp2
    go_ret
    exact ⟨rfl, rfl⟩
  · have c0 := hb.cellAt 0 h0
    clear h0 hb
    go_enter Tryz.func78, Tryz.ntmps78
    go_wp2
    go_ret
    exact ⟨rfl, rfl⟩
theorem clk_now (h : Clk w N now busy st due fs) : Calls Tryz.prog 130 #[.pointer (some ⟨N + 2, 0, none⟩), .pointer none] w fun e w' => e = .returned (.int .i64 now) ∧ w = w' := by
  obtain ⟨cs, hb, _, h0, _⟩ := h.blk
  have c0 := hb.cellAt 0 h0
  have H := Lib.hid h
  clear h h0 hb
  go_enter Tryz.func130, Tryz.ntmps130
  go_wp2_with (first | (go_at_call 78; refine (clk_made H.out).mono ?_; rintro e w' ⟨rfl, rfl⟩) | (go_at_call 66; refine (cell_load_at _ _ _ H.out.now).mono ?_; rintro e w' ⟨rfl, rfl⟩))
  go_ret
  exact ⟨rfl, rfl⟩
structure Half (w0 w : World) (N k : Nat) : Prop where
  blk : ∃ cs, Blk w (N + 2) cs 60 ∧ cs.size = 50 ∧ cs[0]? = some (.pointer (some ⟨N, 0, none⟩)) ∧ cs[1]? = some (.pointer (some ⟨N + 1, 0, none⟩)) ∧
    (∀ i, i < 16 → cs[2 + i * 3 + 2]? = some .nilFunc) ∧ (∀ i, i < k → cs[2 + i * 3]? = some (.pointer (some ⟨N + 3 + 2 * i, 0, none⟩)) ∧ cs[2 + i * 3 + 1]? = some (.pointer (some ⟨N + 4 + 2 * i, 0, none⟩))) ∧
    (∀ i, k ≤ i → i < 16 → cs[2 + i * 3]? = some (.pointer none) ∧ cs[2 + i * 3 + 1]? = some (.pointer none))
  size : w.heap.size = N + 3 + 2 * k
  now : CellAt w N 0
  busy : CellAt w (N + 1) 0
  st : ∀ i, i < k → CellAt w (N + 3 + 2 * i) 0
  due : ∀ i, i < k → CellAt w (N + 4 + 2 * i) 0
  same : Same w0 w
  n : w0.heap.size = N
theorem Half.step {w wr : World} {N k : Nat} (h : Half w wr N k) (hk : k < 16) : Half w (((((wr.setCell ⟨N + 2, 2 + k * 3, none⟩ (.pointer (some ⟨wr.heap.size, 0, none⟩))).setCell ⟨N + 2, 2 + k * 3 + 1, none⟩ (.pointer (some ⟨wr.heap.size + 1, 0, none⟩))).alloc (.cells #[.int .i64 0, .bool true, .int .i32 0, .int .u32 0, .chan none] 173)).alloc (.cells #[.int .i64 0, .bool true, .int .i32 0, .int .u32 0, .chan none] 173)).drew) N (k + 1) := by
  obtain ⟨⟨cs, hB, hsz, c0, c1, cf, cl, ch⟩, hz, h1, h2, h3, h4, h5, h6⟩ := h
  have hw0 := h5.size
  have e1 : wr.heap.size = N + 3 + 2 * k := hz
  have hs : Same w (wr.setCell ⟨N + 2, 2 + k * 3, none⟩ (.pointer (some ⟨wr.heap.size, 0, none⟩)) |>.setCell ⟨N + 2, 2 + k * 3 + 1, none⟩ (.pointer (some ⟨wr.heap.size + 1, 0, none⟩))) := (h5.setCell (p := ⟨N + 2, 2 + k * 3, none⟩) (.inr (by show w.heap.size ≤ N + 2; omega)) _).setCell (p := ⟨N + 2, 2 + k * 3 + 1, none⟩) (.inr (by show w.heap.size ≤ N + 2; omega)) _
  have hc : Chg (· = N + 2) wr ((wr.setCell ⟨N + 2, 2 + k * 3, none⟩ (.pointer (some ⟨wr.heap.size, 0, none⟩))).setCell ⟨N + 2, 2 + k * 3 + 1, none⟩ (.pointer (some ⟨wr.heap.size + 1, 0, none⟩))) := ((Chg.refl (· = N + 2) wr).setCell (p := ⟨N + 2, 2 + k * 3, none⟩) (.inl rfl) _).setCell (p := ⟨N + 2, 2 + k * 3 + 1, none⟩) (.inl rfl) _
  have hBB := (hB.set (2 + k * 3) (.pointer (some ⟨wr.heap.size, 0, none⟩))).set (2 + k * 3 + 1) (.pointer (some ⟨wr.heap.size + 1, 0, none⟩))
  have hzz : ((wr.setCell ⟨N + 2, 2 + k * 3, none⟩ (.pointer (some ⟨wr.heap.size, 0, none⟩))).setCell ⟨N + 2, 2 + k * 3 + 1, none⟩ (.pointer (some ⟨wr.heap.size + 1, 0, none⟩))).heap.size = wr.heap.size := by simp [World.setCell]
  have g1 := h1.chg hc (by omega)
  have g2 := h2.chg hc (by omega)
  have g3 := fun i (hi : i < k) => (h3 i hi).chg hc (by omega)
  have g4 := fun i (hi : i < k) => (h4 i hi).chg hc (by omega)
  generalize (wr.setCell ⟨N + 2, 2 + k * 3, none⟩ (.pointer (some ⟨wr.heap.size, 0, none⟩))).setCell ⟨N + 2, 2 + k * 3 + 1, none⟩ (.pointer (some ⟨wr.heap.size + 1, 0, none⟩)) = V at *
  have n1 : CellAt (V.alloc (.cells #[.int .i64 0, .bool true, .int .i32 0, .int .u32 0, .chan none] 173)) (N + 3 + 2 * k) 0 := by rw [← e1, ← hzz]; exact CellAt.new _ _
  have n2 : CellAt ((V.alloc (.cells #[.int .i64 0, .bool true, .int .i32 0, .int .u32 0, .chan none] 173)).alloc (.cells #[.int .i64 0, .bool true, .int .i32 0, .int .u32 0, .chan none] 173)) (N + 4 + 2 * k) 0 := by
    have : (V.alloc (.cells #[.int .i64 0, .bool true, .int .i32 0, .int .u32 0, .chan none] 173)).heap.size = N + 4 + 2 * k := by simp [hzz, e1]; omega
    rw [← this]; exact CellAt.new _ _
  refine ⟨⟨_, ((hBB.alloc _).alloc _).drew, by simpa using hsz, ?_, ?_, fun i hi => ?_, fun i hi => ?_, fun i hi hi' => ?_⟩, ?_, ((g1.al _).al _), ((g2.al _).al _), fun i hi => ?_, fun i hi => ?_, ((hs.alloc _).alloc _).drew, h6⟩
  · rw [Array.getElem?_setIfInBounds_ne (by omega), Array.getElem?_setIfInBounds_ne (by omega)]; exact c0
  · rw [Array.getElem?_setIfInBounds_ne (by omega), Array.getElem?_setIfInBounds_ne (by omega)]; exact c1
  · rw [Array.getElem?_setIfInBounds_ne (by omega), Array.getElem?_setIfInBounds_ne (by omega)]; exact cf i hi
  · by_cases hik : i = k
    · subst hik
      refine ⟨?_, ?_⟩
      · rw [Array.getElem?_setIfInBounds_ne (by omega), Array.getElem?_setIfInBounds_self_of_lt (by omega), e1]
      · rw [Array.getElem?_setIfInBounds_self_of_lt (by simp; omega), e1]
        simp only [Option.some.injEq, Value.pointer.injEq, Addr.mk.injEq, and_true]; omega
    · obtain ⟨a, b⟩ := cl i (by omega)
      refine ⟨?_, ?_⟩
      · rw [Array.getElem?_setIfInBounds_ne (by omega), Array.getElem?_setIfInBounds_ne (by omega)]; exact a
      · rw [Array.getElem?_setIfInBounds_ne (by omega), Array.getElem?_setIfInBounds_ne (by omega)]; exact b
  · obtain ⟨a, b⟩ := ch i (by omega) hi'
    refine ⟨?_, ?_⟩
    · rw [Array.getElem?_setIfInBounds_ne (by omega), Array.getElem?_setIfInBounds_ne (by omega)]; exact a
    · rw [Array.getElem?_setIfInBounds_ne (by omega), Array.getElem?_setIfInBounds_ne (by omega)]; exact b
  · show ((V.alloc _).alloc _).heap.size = _
    simp [hzz, e1]; omega
  · by_cases hik : i = k
    · subst hik; exact n1.al _
    · exact ((g3 i (by omega)).al _).al _
  · by_cases hik : i = k
    · subst hik; exact n2
    · exact ((g4 i (by omega)).al _).al _
theorem clk_new (w : World) : Calls Tryz.prog 19 #[] w fun e w' => e = .returned (.pointer (some ⟨w.heap.size + 2, 0, none⟩)) ∧ Clk w' w.heap.size 0 0 (fun _ => 0) (fun _ => 0) (fun _ => .nilFunc) ∧ Same w w' := by
  obtain ⟨N, hN⟩ : ∃ N, w.heap.size = N := ⟨_, rfl⟩
  rw [hN]
  have HN := Lib.hid hN
  go_enter Tryz.func19, Tryz.ntmps19
  go_wp2_with fail
  refine (cell_new _ _).mono ?_
  rintro e w1 ⟨rfl, hw1⟩
  have k1 : CellAt w1 N 0 := by rw [← hw1, ← hN]; exact CellAt.new _ _
  have z1 : w1.heap.size = N + 1 := by rw [← hw1, ← hN]; simp
  have s1 : Same w w1 := by rw [← hw1]; exact (Chg.refl _ _).alloc _
  clear hw1
  rw [hN]
  have H1 := Lib.hid (And.intro k1 (And.intro z1 s1))
  clear k1 z1 s1 hN
  go_wp2_with fail
  refine (cell_new _ _).mono ?_
  rintro e w2 ⟨rfl, hw2⟩
  obtain ⟨k1, z1, s1⟩ := H1.out
  have k2 : CellAt w2 (N + 1) 0 := by rw [← hw2, ← z1]; exact CellAt.new _ _
  have k3 : CellAt w2 N 0 := by rw [← hw2]; exact k1.al _
  have z2 : w2.heap.size = N + 2 := by rw [← hw2]; simp [z1]
  have s2 : Same w w2 := by rw [← hw2]; exact s1.alloc _
  clear hw2
  rw [z1]
  have H2 := Lib.hid (And.intro k2 (And.intro k3 (And.intro z2 s2)))
  clear k1 z1 s1 k2 k3 z2 s2
  go_wp2_with fail
  have z2 := H2.out.2.2.1
  rw [z2]
  have hH : Half w (w2.alloc (.cells #[.pointer (some ⟨N, 0, none⟩), .pointer (some ⟨N + 1, 0, none⟩), .pointer none, .pointer none, .nilFunc, .pointer none, .pointer none, .nilFunc, .pointer none, .pointer none, .nilFunc, .pointer none, .pointer none, .nilFunc, .pointer none, .pointer none, .nilFunc, .pointer none, .pointer none, .nilFunc, .pointer none, .pointer none, .nilFunc, .pointer none, .pointer none, .nilFunc, .pointer none, .pointer none, .nilFunc, .pointer none, .pointer none, .nilFunc, .pointer none, .pointer none, .nilFunc, .pointer none, .pointer none, .nilFunc, .pointer none, .pointer none, .nilFunc, .pointer none, .pointer none, .nilFunc, .pointer none, .pointer none, .nilFunc, .pointer none, .pointer none, .nilFunc] 60)) N 0 := by
    obtain ⟨k2, k3, z2, s2⟩ := H2.out
    refine ⟨⟨_, by rw [← z2]; exact Blk.new _ _ _, rfl, rfl, rfl, fun i hi => ?_, fun i hi => by omega, fun i _ hi => ?_⟩, by simp [z2], k3.al _, k2.al _, fun i hi => by omega, fun i hi => by omega, s2.alloc _, HN.out⟩
    · have : i = 0 ∨ i = 1 ∨ i = 2 ∨ i = 3 ∨ i = 4 ∨ i = 5 ∨ i = 6 ∨ i = 7 ∨ i = 8 ∨ i = 9 ∨ i = 10 ∨ i = 11 ∨ i = 12 ∨ i = 13 ∨ i = 14 ∨ i = 15 := by omega
      rcases this with rfl | rfl | rfl | rfl | rfl | rfl | rfl | rfl | rfl | rfl | rfl | rfl | rfl | rfl | rfl | rfl <;> rfl
    · have : i = 0 ∨ i = 1 ∨ i = 2 ∨ i = 3 ∨ i = 4 ∨ i = 5 ∨ i = 6 ∨ i = 7 ∨ i = 8 ∨ i = 9 ∨ i = 10 ∨ i = 11 ∨ i = 12 ∨ i = 13 ∨ i = 14 ∨ i = 15 := by omega
      rcases this with rfl | rfl | rfl | rfl | rfl | rfl | rfl | rfl | rfl | rfl | rfl | rfl | rfl | rfl | rfl | rfl <;> exact ⟨rfl, rfl⟩
  generalize w2.alloc _ = W at *
  have HH := Lib.hid hH
  clear hH z2 H2 H1
  go_loopw [7] (fun i wr => ∃ k : Nat, k ≤ 16 ∧ i = .int .i64 k ∧ Half w wr N k) (fun i _ => 16 - (intOf i).toNat)
  case atStart => exact ⟨0, by omega, rfl, HH.out⟩
  case round =>
    obtain ⟨k, hk, rfl, hh⟩ := hrel
    rename World => wr
    have HR := Lib.hid hh
    by_cases hlt : k < 16
    · obtain ⟨cs, hB, hsz, c0, c1, cf, cl, ch⟩ := hh.blk
      have hlt3 : N + 2 < wr.heap.size := hB.lt
      have d0 := hB.cellAt (2 + k * 3) (ch k (Nat.le_refl _) hlt).1
      have d1 := hB.cellAt (2 + k * 3 + 1) (ch k (Nat.le_refl _) hlt).2
      have z0 := hB.free (2 + k * 3)
      have z1 := hB.free (2 + k * 3 + 1)
      have b0 : (0 : Int) ≤ (k : Int) := by omega
      have b1 : (k : Int) < 16 := by omega
      have HZ := Lib.hid hh.size
      have HB := Lib.hid (And.intro hB (And.intro hsz (And.intro c0 (And.intro c1 (And.intro cf (And.intro cl ch))))))
      clear hB hsz c0 c1 cf cl ch hh
      go_wp2_with fail
      go_region_with (go_at_call 29; refine (cell_new _ _).mono ?_; rintro e w' ⟨rfl, rfl⟩)
      have hK := HR.out.step hlt
      generalize ((((wr.setCell ⟨N + 2, 2 + k * 3, none⟩ (.pointer (some ⟨wr.heap.size, 0, none⟩))).setCell ⟨N + 2, 2 + k * 3 + 1, none⟩ (.pointer (some ⟨wr.heap.size + 1, 0, none⟩))).alloc (.cells #[.int .i64 0, .bool true, .int .i32 0, .int .u32 0, .chan none] 173)).alloc (.cells #[.int .i64 0, .bool true, .int .i32 0, .int .u32 0, .chan none] 173)).drew = W at *
      have HK := Lib.hid hK
      clear d0 d1 z0 z1 hlt3 HB HZ hK HR
      go_wp2_with fail
      go_roundw
      case rel => first | exact ⟨k + 1, by omega, by simp, HK.out⟩ | exact ⟨k + 1, by omega, by simp, HK.out, trivial⟩
      case measure => simp [intOf]; omega
    · obtain rfl : k = 16 := by omega
      clear hh
      go_wp2_with fail
      go_ret
      obtain ⟨⟨cs, hB, hsz, c0, c1, cf, cl, ch⟩, hz, h1, h2, h3, h4, h5, h6⟩ := HR.out
      exact ⟨rfl, ⟨⟨cs, hB, hsz, c0, c1, fun i hi => ⟨(cl i hi).1, (cl i hi).2, cf i hi⟩⟩, h1, h2, h3, h4⟩, h5⟩
end Go.Proofs.YtgljjgmfhememaaGreatDoor
