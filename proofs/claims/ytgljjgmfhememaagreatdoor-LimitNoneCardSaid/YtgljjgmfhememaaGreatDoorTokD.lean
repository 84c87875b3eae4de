/- Package token with a nil thread: Child of one that lives, Cancel of one on which one function hangs. Conditions: none. -/
import Derived.Test.YtgljjgmfhememaaGreatDoorTokC
namespace Go.Proofs.YtgljjgmfhememaaGreatDoor
open Go Go.RowKit
set_option maxRecDepth 100000
set_option maxHeartbeats 2000000
variable {w : World} {r : TR} {pl : Array Value}
theorem tok_child (depth : Int) (hd : 0 ≤ depth ∧ depth < 64) (h : Tok w r 0 0 0 pl depth) : Calls Tryz.prog 44 #[.pointer (some ⟨r.b, 0, none⟩), .pointer none] w fun e w' =>
    ∃ (c : TR) (pl' : Array Value), e = .returned (.tuple #[.pointer (some ⟨c.b, 0, none⟩), .int .i64 0]) ∧ Tok w' c 0 0 0 epl0 (depth + 1) ∧ Tok w' r 0 1 1 pl' depth ∧ (∀ k, c.has k → w.heap.size ≤ k) ∧ Chg r.has w w' := by
  have c1 := h.blk.cellAt 1 (v := .pointer (some ⟨r.l, 0, none⟩)) rfl
  have c2 := h.blk.cellAt 2 (v := .int .i64 depth) rfl
  have hne64 : ((depth : Int) == 64) = false := beq_eq_false_iff_ne.2 (by omega)
  have H := Lib.hid h
  have hne := Lib.hid (TokAt.ne h)
  clear h
  go_enter Tryz.func44, Tryz.ntmps44
  go_wp2_with fail
  refine (tok_made _ _ _ _ H.out.blk rfl).mono ?_
  rintro e w' ⟨rfl, rfl⟩
  go_wp2_with fail
  refine (tok_new w).mono ?_
  rintro e w1 ⟨c, rfl, hc, hcn, s1⟩
  have hr1 := H.out.chg s1 (fun _ _ x => x)
  have d1 := hr1.blk.cellAt 1 (v := .pointer (some ⟨r.l, 0, none⟩)) rfl
  have d2 := hr1.blk.cellAt 2 (v := .int .i64 depth) rfl
  have e2 := hc.blk.cellAt 2 (v := .int .i64 0) rfl
  have y2 := hc.blk.free 2
  have hrl := H.out.lt
  have hbn : r.b ≠ c.b := fun e => by have := hrl r.b (.inl rfl); have := hcn c.b (.inl rfl); omega
  have d1' := (hr1.blk.set_other (a := ⟨c.b, 2, none⟩) (Ne.symm hbn) (.int .i64 (depth + 1))).cellAt 1 (v := .pointer (some ⟨r.l, 0, none⟩)) rfl
  have HC := Lib.hid (And.intro hc (And.intro hcn (And.intro s1 (And.intro hr1 hrl))))
  clear c1 c2 hc hcn s1 hr1 hrl d1
  go_wp2_with fail
  have hcS : Tok (w1.setCell ⟨c.b, 2, none⟩ (.int .i64 (depth + 1))) c 0 0 0 epl0 (depth + 1) ∧ Tok (w1.setCell ⟨c.b, 2, none⟩ (.int .i64 (depth + 1))) r 0 0 0 pl depth ∧ Chg (fun k => k = c.b) w1 (w1.setCell ⟨c.b, 2, none⟩ (.int .i64 (depth + 1))) := by
    obtain ⟨hc, hcn, s1, hr1, hrl⟩ := HC.out
    have hcc : Chg (fun k => k = c.b) w1 (w1.setCell ⟨c.b, 2, none⟩ (.int .i64 (depth + 1))) := (Chg.refl (fun k => k = c.b) w1).setCell (p := ⟨c.b, 2, none⟩) (.inl rfl) _
    have hn := TokAt.ne hc
    refine ⟨⟨hc.blk.set 2 _, hc.cell.chg hcc (by omega), hc.list.chg hcc (by omega) (by omega) (by omega) (by omega), hc.n1, hc.n2⟩, hr1.chg hcc (fun k hk e => ?_), hcc⟩
    have := hrl k hk; have := hcn c.b (.inl rfl); omega
  generalize w1.setCell ⟨c.b, 2, none⟩ (.int .i64 (depth + 1)) = w2 at *
  have HS := Lib.hid hcS
  clear hcS d2 e2 y2 d1'
  refine (elist_add _ _ _ _ _ _ _ _ ⟨⟨_, rfl⟩, .inl rfl⟩ HS.out.2.1.list).mono ?_
  rintro e w3 ⟨rfl, g1, g2⟩
  have HG := Lib.hid (And.intro g1 g2)
  clear g1 g2
  go_wp2_with fail
  go_ret2
  obtain ⟨g1, g2⟩ := HG.out
  obtain ⟨hc2, hr2, hcc⟩ := HS.out
  obtain ⟨hc, hcn, s1, hr1, hrl⟩ := HC.out
  have hn := hne.out
  have g3 := r.lists g2
  refine ⟨c, _, rfl, hc2.chg g3 (fun k hk e => ?_), ⟨g2.blk hr2.blk (by omega), g2.blk hr2.cell (by omega), g1, hr2.n1, hr2.n2⟩, hcn, ?_⟩
  · have := hrl k e; have := hcn k hk; omega
  · exact (((s1.mono (S' := r.has) (fun _ _ x => x.elim)).trans' hcc (fun i hi e => by have := hcn c.b (.inl rfl); omega)).trans g3)
theorem tok_cancel (depth : Int) (reason : Int) (hrs : 1 ≤ reason) (F : Nat) (cap : Array Value) (S : Nat → Prop) (R : World → Prop)
    (h : Tok w r 0 1 1 (((pl.setIfInBounds 3 (.pointer none)).setIfInBounds 4 (.func (.func F) #[] cap)).setIfInBounds 5 (.int .i64 0)) depth) (hpl : pl.size = 195)
    (hE : ∀ a1 a2 w, (callFunc F (#[a1, a2] ++ cap)).run Tryz.prog w = .ok (.enter F (#[a1, a2] ++ cap)) w)
    (hSn : ∀ k, S k → k < w.heap.size)
    (hf : ∀ w1, Chg (fun k => k = r.s ∨ k = r.hb) w w1 → CellAt w1 r.s reason → Calls Tryz.prog F (#[.pointer none, .int .i64 reason] ++ cap) w1 fun e w2 => e = .returned (.tuple #[]) ∧ Chg S w1 w2 ∧ R w2) (hR : ∀ w1 w2, R w1 → Same w1 w2 → R w2) :
    Calls Tryz.prog 45 #[.pointer (some ⟨r.b, 0, none⟩), .pointer none, .int .i64 reason] w fun e w' => e = .returned (.bool true) ∧ R w' ∧ Chg (fun k => k = r.s ∨ k = r.hb ∨ S k) w w' := by
  have c0 := h.blk.cellAt 0 (v := .pointer (some ⟨r.s, 0, none⟩)) rfl
  have e1 : decide (reason < 1) = false := decide_eq_false (by omega)
  have H := Lib.hid h
  have hne := Lib.hid (TokAt.ne h)
  have HF := Lib.hid (And.intro hSn (And.intro hf hR))
  clear h hSn hf hR
  go_enter Tryz.func45, Tryz.ntmps45
  go_wp2_with fail
  refine (tok_made _ _ _ _ H.out.blk rfl).mono ?_
  rintro e w' ⟨rfl, rfl⟩
  go_wp2_with fail
  refine (cas_ok _ _ _ _ H.out.cell).mono ?_
  rintro e w1 ⟨rfl, q1, q2⟩
  have hn := hne.out
  have h1 : TokAt w1 r.b r.s r.l r.lb r.hb r.pb reason 1 1 _ depth := ⟨q2.blk H.out.blk (by omega), q1, H.out.list.chg q2 (by omega) (by omega) (by omega) (by omega), H.out.n1, H.out.n2⟩
  have d1 := h1.blk.cellAt 1 (v := .pointer (some ⟨r.l, 0, none⟩)) rfl
  have H1 := Lib.hid (And.intro h1 q2)
  clear h1 q1 q2 hn c0
  go_wp2_with fail
  refine (elist_close_one _ _ _ _ _ _ _ _ _ H1.out.1.list (by rw [Array.getElem?_setIfInBounds_ne (by omega), Array.getElem?_setIfInBounds_ne (by omega), Array.getElem?_setIfInBounds_self_of_lt (by omega)]) (by rw [Array.getElem?_setIfInBounds_ne (by omega), Array.getElem?_setIfInBounds_self_of_lt (by simp; omega)]) (by rw [Array.getElem?_setIfInBounds_self_of_lt (by simp; omega)])).mono ?_
  rintro e w2 ⟨rb, c, rfl, hl2, ⟨k0, k1⟩, hrb, q2⟩
  have lt2 : rb < w2.heap.size := World.block_lt_of_cell? w2 ⟨rb, 0, none⟩ k0
  have hc2 : Chg (fun k => k = r.s ∨ k = r.hb) w w2 := (H1.out.2.mono (fun _ _ e => .inl e)).trans (q2.mono (fun _ _ e => .inr e))
  have hcs : CellAt w2 r.s reason := H1.out.1.cell.chg q2 (by have := hne.out; omega)
  have H2 := Lib.hid hc2
  have HCS := Lib.hid hcs
  clear hl2 hrb q2 hc2 d1 hcs
  go_wp2_with fail
  refine wp_loop_rounds 2 ?_; rw [rounds_succ]
  have hcall := HF.out.2.1 (w2.alloc (.cells #[.pointer none, .func (.func F) #[] cap] 146)) (H2.out.alloc _) (HCS.out.al _)
  have HCALL := Lib.hid hcall
  have hEn := hE (.pointer none) (.int .i64 reason)
  clear hcall
  go_wp2_with fail
  refine HCALL.out.mono ?_
  rintro e w3 ⟨rfl, g3, hr3⟩
  have H3 := Lib.hid (And.intro g3 hr3)
  clear g3 hr3 k0 k1 lt2
  go_wp2_with fail
  rw [rounds_succ]
  go_wp2_with fail
  go_ret
  exact ⟨rfl, H3.out.2, ((H2.out.alloc _).mono (fun _ _ e => by rcases e with e | e; exact .inl e; exact .inr (.inl e))).trans (H3.out.1.mono (fun _ _ e => .inr (.inr e)))⟩
end Go.Proofs.YtgljjgmfhememaaGreatDoor
