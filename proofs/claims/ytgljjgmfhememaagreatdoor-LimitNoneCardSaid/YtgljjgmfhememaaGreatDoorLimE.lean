/- Package limit: what hangs on a limited future when it comes in time; what a token's timer does when it rings. Conditions: none. -/
import Derived.Test.YtgljjgmfhememaaGreatDoorLimD
namespace Go.Proofs.YtgljjgmfhememaaGreatDoor
open Go Go.RowKit Go.Sort
set_option maxRecDepth 100000
set_option maxHeartbeats 2000000
variable {w : World} {N : Nat} {now busy : Int} {st due : Nat → Int} {fs : Nat → Value}
theorem hang_in_time (g : FR) (ka tb xb : Nat) (j : Nat) (hj : j < 16) (v : Int) (h0 : 0 ≤ st j ∧ st j ≤ 2000000000) (h4 : st j % 4 = 2) (ha : Blk w ka #[.pointer (some ⟨g.b, 0, none⟩)] 24) (ht : Blk w tb #[.pointer (some ⟨N + 2, 0, none⟩)] 50) (hx : Blk w xb #[.int .i64 j, .int .i64 (st j)] 151) (hg : FutF w g []) (hc : Clk w N now busy st due fs) (hgN : ∀ k, g.has k → ¬ Turned N k) :
    Calls Tryz.prog 73 #[.pointer none, .int .i64 v, .nilIface, .pointer (some ⟨ka, 0, none⟩), .pointer (some ⟨tb, 0, none⟩), .pointer (some ⟨xb, 0, none⟩)] w fun e w' => e = .returned (.tuple #[]) ∧ FutV w' g v ∧ Clk w' N now busy (upd st j (st j + 2)) due fs ∧ Chg (fun k => g.has k ∨ Turned N k) w w' := by
  have c0 := ha.cellAt 0 (v := .pointer (some ⟨g.b, 0, none⟩)) rfl
  have n1 : ¬ g.has tb := hg.ne_blk ht (by decide) (by decide) (by decide) (by decide)
  have n2 : ¬ g.has xb := hg.ne_blk hx (by decide) (by decide) (by decide) (by decide)
  have H := Lib.hid (And.intro ht (And.intro hx (And.intro hg (And.intro hc (And.intro hgN h4)))))
  clear ha ht hx hg hc hgN h4
  go_enter Tryz.func73, Tryz.ntmps73
  go_wp2_with fail
  refine (complete_open _ _ _ H.out.2.2.1).mono ?_
  rintro e w1 ⟨rfl, h1, q1⟩
  have ht1 := q1.blk H.out.1 n1
  have hx1 := q1.blk H.out.2.1 n2
  have c1 := ht1.cellAt 0 (v := .pointer (some ⟨N + 2, 0, none⟩)) rfl
  have c2 := hx1.cellAt 0 (v := .int .i64 j) rfl
  have c3 := hx1.cellAt 1 (v := .int .i64 (st j)) rfl
  have hck1 := H.out.2.2.2.1.chg q1 (fun k h1 h2 e => H.out.2.2.2.2.1 k e ⟨h1, h2⟩)
  have HE := Lib.hid (And.intro h1 (And.intro q1 hck1))
  clear h1 q1 ht1 hx1 hck1 c0
  go_wp2_with fail
  refine (clk_stop_hit HE.out.2.2 j hj (st j) h0 H.out.2.2.2.2.2 rfl).mono ?_
  rintro e w2 ⟨rfl, hck2, q2⟩
  have HF := Lib.hid (And.intro hck2 q2)
  clear hck2 q2 c1 c2 c3
  go_wp2_with fail
  go_end0
  exact ⟨rfl, HE.out.1.chg HF.out.2 H.out.2.2.2.2.1, HF.out.1, (HE.out.2.1.mono (fun _ _ e => .inl e)).trans (HF.out.2.mono (fun _ _ e => .inr e))⟩
/-- A token cancelled. -/
def TokDead (w : World) (c : TR) (reason : Int) : Prop := CellAt w c.s reason ∧ Blk w c.b #[.pointer (some ⟨c.s, 0, none⟩), .pointer (some ⟨c.l, 0, none⟩), .int .i64 1] 65
theorem TokDead.chg {S : Nat → Prop} {w w' : World} {c : TR} {reason : Int} (h : TokDead w c reason) (hc : Chg S w w') (hn : ∀ k, c.has k → ¬ S k) : TokDead w' c reason := ⟨h.1.chg hc (hn _ (.inr (.inl rfl))), hc.blk h.2 (hn _ (.inl rfl))⟩
theorem dead_reason {c : TR} {reason : Int} (h : TokDead w c reason) : Calls Tryz.prog 26 #[.pointer (some ⟨c.b, 0, none⟩), .pointer none] w fun e w' => e = .returned (.int .i64 reason) ∧ w = w' := by
  have c0 := h.2.cellAt 0 (v := .pointer (some ⟨c.s, 0, none⟩)) rfl
  have H := Lib.hid h
  clear h
  go_enter Tryz.func26, Tryz.ntmps26
  go_wp2_with (first | (go_at_call 83; refine (tok_made _ _ _ _ H.out.2 rfl).mono ?_; rintro e w' ⟨rfl, rfl⟩) | (go_at_call 66; refine (cell_load_at _ _ _ H.out.1).mono ?_; rintro e w' ⟨rfl, rfl⟩))
  go_ret
  exact ⟨rfl, rfl⟩
/-- What hangs on a token under a deadline: its timer is stopped, if it has not rung. -/
theorem token_hang (tb xb : Nat) (j : Nat) (hj : j < 16) (y reason : Int) (h0 : 0 ≤ y ∧ y ≤ 2000000000) (h4 : y % 4 = 2) (hne : ¬ st j = y) (ht : Blk w tb #[.pointer (some ⟨N + 2, 0, none⟩)] 50) (hx : Blk w xb #[.int .i64 j, .int .i64 y] 151) (hc : Clk w N now busy st due fs) :
    Calls Tryz.prog 77 #[.pointer none, .int .i64 reason, .pointer (some ⟨tb, 0, none⟩), .pointer (some ⟨xb, 0, none⟩)] w fun e w' => e = .returned (.tuple #[]) ∧ Clk w' N now busy st due fs ∧ Chg (Turned N) w w' := by
  have c1 := ht.cellAt 0 (v := .pointer (some ⟨N + 2, 0, none⟩)) rfl
  have c2 := hx.cellAt 0 (v := .int .i64 j) rfl
  have c3 := hx.cellAt 1 (v := .int .i64 y) rfl
  have H := Lib.hid (And.intro hc (And.intro h4 hne))
  clear ht hx hc h4 hne
  go_enter Tryz.func77, Tryz.ntmps77
  go_wp2_with fail
  refine (clk_stop_miss H.out.1 j hj y h0 H.out.2.1 H.out.2.2).mono ?_
  rintro e w2 ⟨rfl, hck2, q2⟩
  have HF := Lib.hid (And.intro hck2 q2)
  clear hck2 q2 c1 c2 c3
  go_wp2_with fail
  go_end0
  exact ⟨rfl, HF.out.1, HF.out.2⟩
theorem ring_time (c : TR) (cb tb xb : Nat) (j : Nat) (hj : j < 16) (y : Int) (h0 : 0 ≤ y ∧ y ≤ 2000000000) (h4 : y % 4 = 2) (hne : ¬ st j = y)
    (hcb : Blk w cb #[.pointer (some ⟨c.b, 0, none⟩)] 52) (ht : Blk w tb #[.pointer (some ⟨N + 2, 0, none⟩)] 50) (hx : Blk w xb #[.int .i64 j, .int .i64 y] 151)
    (hk : Tok w c 0 1 1 (((epl0.setIfInBounds 3 (.pointer none)).setIfInBounds 4 (.func (.func 77) #[] #[.pointer (some ⟨tb, 0, none⟩), .pointer (some ⟨xb, 0, none⟩)])).setIfInBounds 5 (.int .i64 0)) 1)
    (hc : Clk w N now busy st due fs) (hcN : ∀ k, c.has k → ¬ Turned N k) :
    Calls Tryz.prog 76 #[.pointer none, .pointer (some ⟨cb, 0, none⟩)] w fun e w' => e = .returned (.tuple #[]) ∧ TokDead w' c 1 ∧ Clk w' N now busy st due fs ∧ Chg (fun k => c.has k ∨ Turned N k) w w' := by
  have c0 := hcb.cellAt 0 (v := .pointer (some ⟨c.b, 0, none⟩)) rfl
  have hbs := TokAt.ne hk
  have hlt := hc.lt
  have hm : ∀ k, (k = c.s ∨ k = c.hb) → c.has k := fun k e => by unfold TR.has; omega
  have hcall := tok_cancel 1 1 (by decide) 77 #[.pointer (some ⟨tb, 0, none⟩), .pointer (some ⟨xb, 0, none⟩)] (Turned N) (fun w' => TokDead w' c 1 ∧ Clk w' N now busy st due fs) hk (by kernel_rfl) (fun a1 a2 w => by kernel_rfl) (fun k e => by unfold Turned at e; omega)
    (fun w1 hc1 hs1 => (token_hang tb xb j hj y 1 h0 h4 hne (hc1.blk ht (fun e => by rcases e with e | e; exact absurd e.symm (Blk.ne hk.cell ht (by decide)); exact absurd e.symm (Blk.ne hk.list.chead ht (by decide)))) (hc1.blk hx (fun e => by rcases e with e | e; exact absurd e.symm (Blk.ne hk.cell hx (by decide)); exact absurd e.symm (Blk.ne hk.list.chead hx (by decide)))) (hc.chg hc1 (fun k h1 h2 e => hcN k (hm k e) ⟨h1, h2⟩))).mono
      fun e w2 ⟨he, hck, q⟩ => ⟨he, q, ⟨hs1.chg q (hcN _ (.inr (.inl rfl))), q.blk (hc1.blk hk.blk (by omega)) (hcN _ (.inl rfl))⟩, hck⟩)
    (fun w1 w2 ⟨a, b⟩ s => ⟨a.chg s (fun _ _ x => x), b.chg s (fun _ _ _ x => x)⟩)
  have HC := Lib.hid hcall
  clear hcall hcb ht hx hk hc hcN
  go_enter Tryz.func76, Tryz.ntmps76
  go_wp2_with fail
  refine HC.out.mono ?_
  rintro e w1 ⟨rfl, ⟨h1, h2⟩, q1⟩
  have HE := Lib.hid (And.intro h1 (And.intro h2 q1))
  clear h1 h2 q1
  go_wp2_with fail
  go_end0
  exact ⟨rfl, HE.out.1, HE.out.2.1, HE.out.2.2.mono (fun k _ e => by
    rcases e with e | e | e
    · exact .inl (hm _ (.inl e))
    · exact .inl (hm _ (.inr e))
    · exact .inr e)⟩
theorem late_await (g : FR) (T : Int) (B : Nat) (h : FutLate w g T B) : Calls Tryz.prog 25 #[.pointer (some ⟨g.b, 0, none⟩), .pointer none] w fun e w' => ∃ eb, e = .returned (.tuple #[.int .i64 0, .iface 154 (.pointer (some ⟨eb, 0, none⟩))]) ∧ Blk w' eb #[.int .i64 T] 156 ∧ Same w w' := by
  obtain ⟨la, pl, eb, _, h1, h2⟩ := h
  exact (fut_await h1 (by decide)).mono fun e w' ⟨he, s⟩ => ⟨eb, he, s.blk h2 (fun x => x), s⟩
theorem FutLate.chg {S : Nat → Prop} {w' : World} {g : FR} {T : Int} {B : Nat} (h : FutLate w g T B) (hc : Chg S w w') (hn : ∀ k, g.has k → ¬ S k) (hS : ∀ k, S k → k < B) : FutLate w' g T B := by
  obtain ⟨la, pl, eb, hb, h1, h2⟩ := h
  exact ⟨la, pl, eb, hb, h1.chg hc (hn _ (.inl rfl)) (hn _ (.inr (.inl rfl))) (hn _ (.inr (.inr (.inl rfl)))) (hn _ (.inr (.inr (.inr (.inl rfl))))) (hn _ (.inr (.inr (.inr (.inr (.inl rfl)))))) (hn _ (.inr (.inr (.inr (.inr (.inr rfl)))))), hc.blk h2 (fun e => by have := hS _ e; omega)⟩
end Go.Proofs.YtgljjgmfhememaaGreatDoor
