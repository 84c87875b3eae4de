/- A list of futures that is appended to. Conditions: none. -/
import Derived.Test.YtgljjgmfhememaaGreatDoorJoinR
namespace Go.Proofs.YtgljjgmfhememaaGreatDoor
open Go Go.RowKit Go.Sort
set_option maxRecDepth 100000
set_option maxHeartbeats 2000000
def ptrv (r : FR) : Value := .pointer (some ⟨r.b, 0, none⟩)
structure FRow (w wr : World) (v : Value) (rs : List FR) : Prop where
  own : wr.ownsRow w.heap.size 24 1 v rs.length (rs.map ptrv)
  fut : ∀ r ∈ rs, FutF wr r []
  apart : Apart rs
  new : ∀ r ∈ rs, ∀ k, r.has k → w.heap.size ≤ k
  same : Same w wr
theorem FRow.nil (w : World) : FRow w w (.slice none 0 0) [] :=
  ⟨World.ownsRow_nil _ _ _ _, (fun r h => by cases h), (fun i j hi => by simp at hi), (fun r h => by cases h), Chg.refl _ _⟩
theorem Apart.snoc {rs : List FR} {r : FR} {n : Nat} (h : Apart rs) (h1 : ∀ x ∈ rs, ∀ k, x.has k → k < n) (h2 : ∀ k, r.has k → n ≤ k) : Apart (rs ++ [r]) := by
  intro i j hi hj hij k hk hk'
  simp only [List.length_append, List.length_cons, List.length_nil] at hi hj
  by_cases hin : i < rs.length
  · rw [List.getElem_append_left hin] at hk
    by_cases hjn : j < rs.length
    · rw [List.getElem_append_left hjn] at hk'
      exact h i j hin hjn hij k hk hk'
    · rw [List.getElem_append_right (by omega)] at hk'
      simp only [show j - rs.length = 0 by omega, List.getElem_cons_zero] at hk'
      have := h1 _ (List.getElem_mem hin) k hk; have := h2 k hk'; omega
  · rw [List.getElem_append_right (by omega)] at hk
    simp only [show i - rs.length = 0 by omega, List.getElem_cons_zero] at hk
    have hjn : j < rs.length := by omega
    rw [List.getElem_append_left hjn] at hk'
    have := h1 _ (List.getElem_mem hjn) k hk'; have := h2 k hk; omega
theorem FRow.same_step {w wr w' : World} {v : Value} {rs : List FR} (h : FRow w wr v rs) (s : Same wr w') : FRow w w' v rs :=
  ⟨ownsRow_same h.own s, fun r hr => (h.fut r hr).chg s (fun _ _ x => x), h.apart, h.new, h.same.trans s⟩
theorem FRow.step {w wr w' : World} {v v' : Value} {rs : List FR} {r : FR} (h : FRow w wr v rs) (hr : FutF wr r []) (hnew : ∀ k, r.has k → w.heap.size ≤ k) (hold : ∃ n, (∀ x ∈ rs, ∀ k, x.has k → k < n) ∧ ∀ k, r.has k → n ≤ k)
    (ho : w'.ownsRow w.heap.size 24 1 v' (rs.length + 1) (rs.map ptrv ++ [ptrv r])) (hg : wr.grownBy w' v.ownBlock) : FRow w w' v' (rs ++ [r]) := by
  obtain ⟨n, hn1, hn2⟩ := hold
  have hc : Chg (fun k => v.ownBlock = some k) wr w' := ⟨hg.os, hg.tape, hg.output, hg.size, fun k hk hn => hg.block k hk (fun e => hn e.symm)⟩
  have hq : ∀ k, v.ownBlock = some k → w.heap.size ≤ k ∧ ∀ x : FR, ∀ fs, FutF wr x fs → ¬ x.has k := fun k hk => by
    refine ⟨(h.own.lt k hk).1, fun x fs hx => ?_⟩
    obtain ⟨_, ⟨rfl, _⟩ | ⟨g, c, cur, rfl, hgb, hcell, _⟩⟩ := h.own
    · simp [Value.ownBlock] at hk
    · simp [Value.ownBlock] at hk
      subst hk
      exact hx.ne_blk (k := g) (cs := cur) (T := 24) hcell (by decide) (by decide) (by decide) (by decide)
  refine ⟨by simpa using ho, fun x hx => ?_, h.apart.snoc hn1 hn2, fun x hx => ?_, h.same.trans' hc (fun k hk e => by have := (hq k e).1; omega)⟩
  · rcases List.mem_append.1 hx with hx | hx
    · exact (h.fut x hx).chg hc (fun k hk e => (hq k e).2 x _ (h.fut x hx) hk)
    · obtain rfl := List.mem_singleton.1 hx
      exact hr.chg hc (fun k hk e => (hq k e).2 x _ hr hk)
  · rcases List.mem_append.1 hx with hx | hx
    · exact h.new x hx
    · obtain rfl := List.mem_singleton.1 hx
      exact hnew
theorem FRow.ptrs {w wr : World} {v : Value} {rs : List FR} (h : FRow w wr v rs) (hl : rs.length ≤ 1000000) : Ptrs wr v (rs.map fun r => some ⟨r.b, 0, none⟩) := by
  refine ⟨by simpa using hl, ?_⟩
  obtain ⟨hlen, ⟨rfl, hz⟩ | ⟨g, c, cur, rfl, hgb, hcell, _, _, hcs, htk⟩⟩ := h.own
  · left
    refine ⟨none, 0, rfl, ?_⟩
    have : rs = [] := List.eq_nil_of_map_eq_nil (f := ptrv) (by
      cases rs with
      | nil => rfl
      | cons x xs => simp at hz)
    simp [this]
  · right
    refine ⟨g, 0, c, by simp, fun j hj => ?_⟩
    have hj' : j < rs.length := by simpa using hj
    have hB : Blk wr g cur 24 := hcell
    have : cur[j]? = some (ptrv rs[j]) := by
      rw [← Array.getElem?_toList]
      have h2 := congrArg (fun l : List Value => l[j]?) htk
      simp only [Nat.mul_one, List.getElem?_take, hj', if_true] at h2
      rw [h2]
      simp [hj']
    rw [Nat.zero_add]
    rw [hB.cellAt j this]
    simp [ptrv]
/-- The row as a block. -/
theorem FRow.blk {w wr : World} {v : Value} {rs : List FR} (h : FRow w wr v rs) (hn : 0 < rs.length) : ∃ g c cur, v = .slice (some ⟨g, 0, none⟩) rs.length c ∧ w.heap.size ≤ g ∧ Blk wr g cur 24 ∧ ∀ j (hj : j < rs.length), cur[j]? = some (ptrv rs[j]) := by
  obtain ⟨hlen, ⟨rfl, hz⟩ | ⟨g, c, cur, rfl, hgb, hcell, _, _, hcs, htk⟩⟩ := h.own
  · exfalso
    cases rs with
    | nil => simp at hn
    | cons x xs => simp at hz
  · refine ⟨g, c, cur, rfl, hgb, hcell, fun j hj => ?_⟩
    rw [← Array.getElem?_toList]
    have h2 := congrArg (fun l : List Value => l[j]?) htk
    simp only [Nat.mul_one, List.getElem?_take, hj, if_true] at h2
    rw [h2]
    simp [hj]
theorem Ptrs.chg {S : Nat → Prop} {w w' : World} {l : Value} {ps : List (Option Addr)} (h : Ptrs w l ps) (hc : Chg S w w') (hn : ∀ a m c, l = .slice (some a) m c → ¬ S a.block) : Ptrs w' l ps := by
  obtain ⟨h1, h2⟩ := h
  refine ⟨h1, ?_⟩
  rcases h2 with h2 | ⟨b, off, cap, rfl, hcell⟩
  · exact .inl h2
  · exact .inr ⟨b, off, cap, rfl, fun j hj => (hc.cell (p := ⟨b, off + j, none⟩) (World.block_lt_of_cell? w ⟨b, off + j, none⟩ (hcell j hj)) (hn ⟨b, off, none⟩ _ _ rfl)).trans (hcell j hj)⟩
/-- One of them is made none. -/
theorem bad_row {W : World} {g c m : Nat} {cur : Array Value} {rs : List FR} {T : TypeId} {x : Option Addr} (hB : Blk W g cur T) (hm : m < rs.length) (hl : rs.length ≤ 1000000) (hx : cur[m]? = some (.pointer x)) (ho : ∀ j (hj : j < rs.length), j ≠ m → cur[j]? = some (ptrv rs[j])) (hf : ∀ r ∈ rs, FutF W r []) (hN : NoFut W x) :
    ∃ ps, ps.length = rs.length ∧ Ptrs W (.slice (some ⟨g, 0, none⟩) rs.length c) ps ∧ OneBad W ps := by
  refine ⟨(rs.map fun r => some ⟨r.b, 0, none⟩).set m x, by simp, ⟨by simpa using hl, .inr ⟨g, 0, c, by simp, fun j hj => ?_⟩⟩, ⟨m, by simpa using hm, ?_, fun j hj => ?_⟩⟩
  · have hj' : j < rs.length := by simpa using hj
    rw [Nat.zero_add]
    by_cases hjm : j = m
    · subst hjm
      rw [hB.cellAt j hx]
      simp
    · rw [hB.cellAt j (ho j hj' hjm)]
      rw [List.getElem_set_ne (by omega)]
      simp [ptrv]
  · simpa using hN
  · rw [List.getElem_set_ne (by omega)]
    have hj' : j < rs.length := by omega
    simpa using (hf _ (List.getElem_mem hj')).n.made
end Go.Proofs.YtgljjgmfhememaaGreatDoor
