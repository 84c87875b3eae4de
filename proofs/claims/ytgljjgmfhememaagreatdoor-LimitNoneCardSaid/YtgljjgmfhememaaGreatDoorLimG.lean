/- Package limit: what two such calls leave lies apart; a future limited and filled in time. Conditions: none. -/
import Derived.Test.YtgljjgmfhememaaGreatDoorLimF
namespace Go.Proofs.YtgljjgmfhememaaGreatDoor
open Go Go.RowKit Go.Sort
set_option maxRecDepth 100000
set_option maxHeartbeats 2000000
theorem Tok.ne_blk {w : World} {r : TR} {reason last head depth : Int} {pl : Array Value} (h : Tok w r reason last head pl depth) {k : Nat} {cs : Array Value} {T : TypeId} (hb : Blk w k cs T)
    (h1 : 65 ≠ T) (h2 : 173 ≠ T) (h3 : 245 ≠ T) (h4 : 284 ≠ T) : ¬ r.has k := by
  have n1 := h.blk.ne hb h1
  have n2 := h.cell.ne hb h2
  have n3 := h.list.blk.ne hb h3
  have n4 := h.list.clast.ne hb h2
  have n5 := h.list.chead.ne hb h2
  have n6 := h.list.places.ne hb h4
  unfold TR.has
  omega
theorem ok_two {w5 w6 w7 : World} {N z4 B : Nat} {g : FR} {ka kb tb1 xb1 jf : Nat} {y1 T1 : Int} {c : TR} {cb tb xb jt : Nat} {y : Int} {pl : Array Value} (hjf : jf < 16) (hjt : jt < 16) (hne : jf ≠ jt) (hN : N + 35 ≤ z4)
    (hb : Bound w5 z4 N g ka kb tb1 xb1 jf y1 T1) (hg : FutF w5 g []) (z45 : z4 ≤ w5.heap.size) (z56 : w5.heap.size ≤ w6.heap.size) (z67 : w6.heap.size ≤ w7.heap.size) (hB : w7.heap.size ≤ B)
    (hcb : Blk w7 cb #[.pointer (some ⟨c.b, 0, none⟩)] 52) (htb : Blk w7 tb #[.pointer (some ⟨N + 2, 0, none⟩)] 50) (hxb : Blk w7 xb #[.int .i64 jt, .int .i64 y] 151)
    (n1 : w6.heap.size ≤ cb) (n2 : w6.heap.size ≤ tb) (n3 : w6.heap.size ≤ xb) (n4 : ∀ k, c.has k → w6.heap.size ≤ k) (ht : Tok w7 c 0 1 1 pl 1) (y0 : 0 ≤ y ∧ y ≤ 1000000) (y4 : y % 4 = 2) :
    (P2.mk N B jf jt g ka kb c cb tb xb T1 y).Ok := by
  have m1 := hg.ne_blk hb.ga (by decide) (by decide) (by decide) (by decide)
  have m2 := hg.ne_blk hb.at_ (by decide) (by decide) (by decide) (by decide)
  have m3 := ht.ne_blk hcb (by decide) (by decide) (by decide) (by decide)
  have m4 := ht.ne_blk htb (by decide) (by decide) (by decide) (by decide)
  have m5 := ht.ne_blk hxb (by decide) (by decide) (by decide) (by decide)
  have l1 := hb.ga.lt
  have l2 := hb.at_.lt
  have l3 := hcb.lt
  have l4 := htb.lt
  have l5 := hxb.lt
  have l6 := hg.lt
  have l7 := ht.lt
  have b1 := hb.na
  have b2 := hb.nb
  have b3 := hb.ng
  have gl : ∀ k, g.has k → N + 35 ≤ k ∧ k < w6.heap.size := fun k hk => by have := l6 k hk; have := b3 k hk; omega
  have cl : ∀ k, c.has k → w6.heap.size ≤ k ∧ k < B := fun k hk => by have := l7 k hk; have := n4 k hk; omega
  have ng : ∀ k, w6.heap.size ≤ k → ¬ g.has k := fun k hk e => by have := gl k e; omega
  have nc : ∀ k, k < w6.heap.size → ¬ c.has k := fun k hk e => by have := cl k e; omega
  exact ⟨hjf, hjt, hne, ⟨by show N + 35 ≤ ka; omega, by show ka < B; omega⟩, ⟨by show N + 35 ≤ kb; omega, by show kb < B; omega⟩, ⟨by show N + 35 ≤ cb; omega, by show cb < B; omega⟩, ⟨by show N + 35 ≤ tb; omega, by show tb < B; omega⟩, ⟨by show N + 35 ≤ xb; omega, by show xb < B; omega⟩,
    fun k hk => ⟨(gl k hk).1, by have := gl k hk; show k < B; omega⟩, fun k hk => ⟨by have := cl k hk; show N + 35 ≤ k; omega, (cl k hk).2⟩, fun k hk hk' => by have := gl k hk; have := cl k hk'; omega, m1, m2, ng _ n1, ng _ n2, ng _ n3, nc _ (by show ka < _; omega), nc _ (by show kb < _; omega), m3, m4, m5, by show N + 35 ≤ B; omega, y0, y4⟩
variable {w : World} {N : Nat} {now busy : Int} {st due : Nat → Int} {fs : Nat → Value}
/-- Completing a future on which one limited one hangs, in time. -/
theorem complete_limited (r g : FR) (ka tb xb j : Nat) (hj : j < 16) (v : Int) (h0 : 0 ≤ st j ∧ st j ≤ 2000000000) (h4 : st j % 4 = 2)
    (hr : FutF w r [(73, #[.pointer (some ⟨ka, 0, none⟩), .pointer (some ⟨tb, 0, none⟩), .pointer (some ⟨xb, 0, none⟩)])])
    (ha : Blk w ka #[.pointer (some ⟨g.b, 0, none⟩)] 24) (ht : Blk w tb #[.pointer (some ⟨N + 2, 0, none⟩)] 50) (hx : Blk w xb #[.int .i64 j, .int .i64 (st j)] 151)
    (hg : FutF w g []) (hc : Clk w N now busy st due fs) (hgN : ∀ k, g.has k → ¬ Turned N k) (hrN : ∀ k, r.has k → ¬ Turned N k) (hrg : ∀ k, r.has k → ¬ g.has k) :
    Calls Tryz.prog 28 #[.pointer (some ⟨r.b, 0, none⟩), .pointer none, .int .i64 v, .nilIface] w fun e w' =>
      e = .returned (.bool true) ∧ FutV w' g v ∧ Clk w' N now busy (upd st j (st j + 2)) due fs ∧ Chg (fun k => r.has k ∨ g.has k ∨ Turned N k) w w' := by
  have r1 := hr.ne_blk ha (by decide) (by decide) (by decide) (by decide)
  have r2 := hr.ne_blk ht (by decide) (by decide) (by decide) (by decide)
  have r3 := hr.ne_blk hx (by decide) (by decide) (by decide) (by decide)
  obtain ⟨pl, hf, hs⟩ := hr
  have hm : ∀ k, (k = r.b ∨ k = r.s ∨ k = r.hb) → r.has k := fun k e => by unfold FR.has; omega
  have hS : ∀ k, r.has k → ¬ (g.has k ∨ Turned N k) := fun k hk e => e.elim (hrg k hk) (hrN k hk)
  have gl := hg.lt
  have cl := hc.lt
  refine (fut_complete_one v _ _ (fun k => g.has k ∨ Turned N k) (fun w' => FutV w' g v ∧ Clk w' N now busy (upd st j (st j + 2)) due fs) hf (hs 0 (by simp)).1 (hs 0 (by simp)).2 (fun a1 a2 a3 w => by kernel_rfl)
    ⟨hS _ (.inl rfl), hS _ (.inr (.inl rfl)), hS _ (.inr (.inr (.inl rfl))), hS _ (.inr (.inr (.inr (.inl rfl)))), hS _ (.inr (.inr (.inr (.inr (.inl rfl))))), hS _ (.inr (.inr (.inr (.inr (.inr rfl)))))⟩
    (fun k e => by rcases e with e | e; exact gl k e; unfold Turned at e; omega)
    (fun w1 c1 => (hang_in_time g ka tb xb j hj v h0 h4 (c1.blk ha (fun e => r1 (hm _ e))) (c1.blk ht (fun e => r2 (hm _ e))) (c1.blk hx (fun e => r3 (hm _ e))) (hg.chg c1 (fun k hk e => hrg k (hm k e) hk)) (hc.chg c1 (fun k h1 h2 e => hrN k (hm k e) ⟨h1, h2⟩)) hgN).mono
      fun e w2 ⟨he, hv, hck, q⟩ => ⟨he, q, hv, hck⟩)).mono ?_
  rintro e w' ⟨he, _, ⟨hv, hck⟩, q⟩
  exact ⟨he, hv, hck, q.mono (fun k _ e => by rcases e with e | e | e | e; exact .inl (hm _ (.inl e)); exact .inl (hm _ (.inr (.inl e))); exact .inl (hm _ (.inr (.inr e))); exact .inr e)⟩
end Go.Proofs.YtgljjgmfhememaaGreatDoor
