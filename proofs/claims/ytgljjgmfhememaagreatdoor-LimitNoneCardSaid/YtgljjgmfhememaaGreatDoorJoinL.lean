/- A future on which three functions hang is filled. Conditions: none. -/
import Derived.Test.YtgljjgmfhememaaGreatDoorJoinK
namespace Go.Proofs.YtgljjgmfhememaaGreatDoor
open Go Go.RowKit
set_option maxRecDepth 100000
set_option maxHeartbeats 2000000
theorem flist_close_three (w : World) (b lb hb pb : Nat) (last : Int) (pl : Array Value) (F1 F2 F3 : Nat) (g1 g2 g3 : Array Value) (h : FList w b lb hb pb last 3 pl) (hst : Stands pl [(F1, g1), (F2, g2), (F3, g3)]) :
    Calls Tryz.prog 133 #[.pointer (some ⟨b, 0, none⟩), .pointer none] w fun e w' => ∃ rb c, e = .returned (.tuple #[.slice (some ⟨rb, 0, none⟩) 3 c, .int .i64 0]) ∧ FList w' b lb hb pb last (-1) pl ∧ (∃ cs T, Blk w' rb cs T ∧ cs[0]? = some (.func (.func F1) #[] g1) ∧ cs[1]? = some (.func (.func F2) #[] g2) ∧ cs[2]? = some (.func (.func F3) #[] g3)) ∧ w.heap.size ≤ rb ∧ Chg (· = hb) w w' := by
  have n2 : b ≠ hb := h.blk.ne h.chead (by decide)
  have n5 : hb ≠ pb := h.chead.ne h.places (by decide)
  have hne := h.ne
  have c1 := h.blk.cellAt 1 (v := .pointer (some ⟨hb, 0, none⟩)) rfl
  go_enter Tryz.func133, Tryz.ntmps133
  go_wp2_with (first | (go_at_call 183; refine (flist_made _ _ _ _ h.blk rfl).mono ?_; rintro e w' ⟨rfl, rfl⟩))
  refine (swap_ok _ _ _ _ h.chead).mono ?_
  rintro e w1 ⟨rfl, q1, q2⟩
  have h1 : FList w1 b lb hb pb last (-1) pl := ⟨q2.blk h.blk n2, q2.blk h.clast hne, q1, q2.blk h.places (Ne.symm n5), h.size, hne⟩
  have HS := Lib.hid hst
  clear c1 hst
  go_wp2_with fail
  refine (flist_row_three _ _ _ _ _ _ _ _ _ _ _ _ _ _ h1 HS.out).mono ?_
  rintro e w2 ⟨rb, c, rfl, k1, k2, k3⟩
  have K1 := Lib.hid k1
  clear k1
  go_wp2_with fail
  go_ret2
  exact ⟨rb, c, rfl, h1.chg k3 (fun x => x) (fun x => x) (fun x => x) (fun x => x), K1.out, Nat.le_trans q2.size k2, q2.trans' k3 (fun _ _ e => e.elim)⟩
/-- What a function that hangs does when it is called with v: from J i to J (i + 1). -/
def Does (S : Nat → Prop) (J : Nat → World → Prop) (u : Int) (i F : Nat) (cap : Array Value) : Prop :=
  (∀ a1 a2 a3 w, (callFunc F (#[a1, a2, a3] ++ cap)).run Tryz.prog w = .ok (.enter F (#[a1, a2, a3] ++ cap)) w) ∧
  ∀ w1, J i w1 → Calls Tryz.prog F (#[.pointer none, .int .i64 u, .nilIface] ++ cap) w1 fun e w2 => e = .returned (.tuple #[]) ∧ Chg S w1 w2 ∧ J (i + 1) w2
variable {w : World} {b s l lb hb pb : Nat} {st last head v : Int} {pl : Array Value} {x : Value}
theorem fut_fill_three (p : Nat) (u : Int) (F1 F2 F3 : Nat) (c1 c2 c3 : Array Value) (S : Nat → Prop) (J : Nat → World → Prop) (h : FutAt w b s l lb hb pb 1 last 3 pl v x) (hst : Stands pl [(F1, c1), (F2, c2), (F3, c3)])
    (hS : ¬ S b ∧ ¬ S s ∧ ¬ S l ∧ ¬ S lb ∧ ¬ S hb ∧ ¬ S pb ∧ ¬ S p) (hSn : ∀ k, S k → k < w.heap.size)
    (hJ0 : ∀ w1, Chg (fun k => k = p ∨ k = b ∨ k = s ∨ k = hb) w w1 → J 0 w1) (hJs : ∀ i w1 w2, J i w1 → Same w1 w2 → J i w2)
    (hf1 : Does S J u 0 F1 c1) (hf2 : Does S J u 1 F2 c2) (hf3 : Does S J u 2 F3 c3) (hp : Blk w p #[.pointer (some ⟨b, 0, none⟩)] 251) :
    Calls Tryz.prog 85 #[.pointer (some ⟨p, 0, none⟩), .pointer none, .int .i64 u, .nilIface] w fun e w' =>
      e = .returned (.bool true) ∧ FutAt w' b s l lb hb pb 2 last (-1) pl u .nilIface ∧ J 3 w' ∧ Chg (fun k => k = p ∨ k = b ∨ k = s ∨ k = hb ∨ S k) w w' := by
  have HST := Lib.hid hst
  have HSN := Lib.hid hSn
  have HJ0 := Lib.hid hJ0
  have HJS := Lib.hid hJs
  have hE1 := hf1.1
  have hE2 := hf2.1
  have hE3 := hf3.1
  have HF1 := Lib.hid hf1.2
  have HF2 := Lib.hid hf2.2
  have HF3 := Lib.hid hf3.2
  clear hst hSn hJ0 hJs hf1 hf2 hf3
  have hne := h.ne
  have q1 : p ≠ b := hp.ne h.blk (by decide)
  have q2 : p ≠ s := hp.ne h.cell (by decide)
  have q3 : p ≠ l := hp.ne h.list.blk (by decide)
  have q4 : p ≠ lb := hp.ne h.list.clast (by decide)
  have q5 : p ≠ hb := hp.ne h.list.chead (by decide)
  have q6 : p ≠ pb := hp.ne h.list.places (by decide)
  have e0 := hp.cellAt 0 (v := .pointer (some ⟨b, 0, none⟩)) rfl
  have z0 := hp.free 0
  have hb1 := h.blk.set_other (a := ⟨p, 0, none⟩) q1 (.pointer none)
  have hb2 := hb1.set 2 (.int .i64 u)
  have hb3 := hb2.set 3 .nilIface
  have e2 := hb1.cellAt 2 (v := .int .i64 v) rfl
  have z2 := hb1.free 2
  have e3 := hb2.cellAt 3 (v := x) rfl
  have z3 := hb2.free 3
  have d0 := hb3.cellAt 0 (v := .pointer (some ⟨s, 0, none⟩)) rfl
  have hc3 : Chg (fun k => k = p ∨ k = b) w (((w.setCell ⟨p, 0, none⟩ (.pointer none)).setCell ⟨b, 2, none⟩ (.int .i64 u)).setCell ⟨b, 3, none⟩ .nilIface) := (((Chg.refl _ _).setCell (.inl (.inl rfl)) _).setCell (.inl (.inr rfl)) _).setCell (.inl (.inr rfl)) _
  have hp3 := ((hp.set 0 (.pointer none)).set_other (a := ⟨b, 2, none⟩) (Ne.symm q1) (.int .i64 u)).set_other (a := ⟨b, 3, none⟩) (Ne.symm q1) .nilIface
  have hs3 : CellAt (((w.setCell ⟨p, 0, none⟩ (.pointer none)).setCell ⟨b, 2, none⟩ (.int .i64 u)).setCell ⟨b, 3, none⟩ .nilIface) s 1 := hc3.blk h.cell (by omega)
  have hl3 := h.list.chg hc3 (by omega) (by omega) (by omega) (by omega)
  have hq : p ≠ b ∧ p ≠ s ∧ p ≠ l ∧ p ≠ lb ∧ p ≠ hb ∧ p ≠ pb := ⟨q1, q2, q3, q4, q5, q6⟩
  have HH := Lib.hid (And.intro hb3 (And.intro hc3 (And.intro hp3 (And.intro hs3 (And.intro hl3 (And.intro hne (And.intro hq h)))))))
  clear hb1 hb2 hb3 hc3 hp3 hs3 hl3 hne hq h hp q1 q2 q3 q4 q5 q6
  go_enter Tryz.func85, Tryz.ntmps85
  go_wp2_with fail
  clear e0 z0 e2 z2 e3 z3 d0
  obtain ⟨hb3, hc3, hp3, hs3, hl3, hne, hq, h⟩ := HH.out
  clear HH
  generalize ((w.setCell ⟨p, 0, none⟩ (.pointer none)).setCell ⟨b, 2, none⟩ (.int .i64 u)).setCell ⟨b, 3, none⟩ .nilIface = w3 at *
  refine (store_ok _ _ _ _ hs3).mono ?_
  rintro e w4 ⟨rfl, g1, g2⟩
  have hb4 := g2.blk hb3 (by omega)
  have d1 := hb4.cellAt 1 (v := .pointer (some ⟨l, 0, none⟩)) rfl
  have hl4 := hl3.chg g2 (by omega) (by omega) (by omega) (by omega)
  have hp4 := g2.blk hp3 (by omega)
  clear hb3 hl3 hp3 hs3
  go_wp2_with fail
  refine (flist_close_three _ _ _ _ _ _ _ _ _ _ _ _ _ hl4 HST.out).mono ?_
  rintro e w5 ⟨rb, c, rfl, k1, ⟨cs, T, hB, r0, r1, r2⟩, kr, k2⟩
  have hx5 : FutAt w5 b s l lb hb pb 2 last (-1) pl u .nilIface := ⟨k2.blk hb4 (by omega), k2.blk g1 (by omega), k1, h.n1, h.n2⟩
  have hc5 : Chg (fun k => k = p ∨ k = b ∨ k = s ∨ k = hb) w w5 := ((hc3.mono (fun _ _ e => by omega)).trans (g2.mono (fun _ _ e => by omega))).trans' k2 (fun _ _ e => by omega)
  have hJ5 : J 0 w5 := HJ0.out _ hc5
  have hrb : ¬ S rb := fun e => by have := HSN.out _ e; have := hc3.size; have := g2.size; omega
  have hu1 : ∀ {wa wb : World}, Chg S wa wb → FutAt wa b s l lb hb pb 2 last (-1) pl u .nilIface → FutAt wb b s l lb hb pb 2 last (-1) pl u .nilIface := fun hc hh => hh.chg hc hS.1 hS.2.1 hS.2.2.1 hS.2.2.2.1 hS.2.2.2.2.1 hS.2.2.2.2.2.1
  have HB5 := Lib.hid (And.intro hx5 (And.intro hc5 (And.intro hJ5 hB)))
  have u2 := hx5.blk.cellAt 2 (v := .int .i64 u) rfl
  have u3 := hx5.blk.cellAt 3 (v := .nilIface) rfl
  have kc := hB.cellAt 0 r0
  have R1 := Lib.hid r1
  have R2 := Lib.hid r2
  clear hb4 g1 k1 k2 hc3 g2 d1 hp4 hl4 hx5 hc5 hJ5 hB r0 r1 r2
  go_wp2_with fail
  refine wp_loop_rounds 4 ?_; rw [rounds_succ]
  go_wp2_with fail
  obtain ⟨hx, hc, hJ, hB⟩ := HB5.out
  have hcall := Lib.hid (HF1.out _ (HJS.out _ _ _ hJ (Chg.drew (Chg.refl _ _))))
  have hxd : FutAt w5.drew b s l lb hb pb 2 last (-1) pl u .nilIface := hx.chg (S := fun _ => False) (Chg.drew (Chg.refl _ _)) (fun x => x) (fun x => x) (fun x => x) (fun x => x) (fun x => x) (fun x => x)
  have HXD := Lib.hid hxd
  clear hx hc hJ hB hxd
  go_region_held3 (fun w' => w'.cell? ⟨b, 2, none⟩ = some (.int .i64 u) ∧ w'.cell? ⟨b, 3, none⟩ = some .nilIface) (go_keep)
    (first | (refine hcall.out.mono ?_; rintro e w6 ⟨rfl, q1, hr1⟩; have x1 := hu1 q1 HXD.out; have d2 := x1.blk.cellAt 2 (v := .int .i64 u) rfl; have d3 := x1.blk.cellAt 3 (v := .nilIface) rfl))
  obtain ⟨_, hc, _, hB⟩ := HB5.out
  have hB1 : Blk w6 rb cs T := q1.blk hB.drew hrb
  have hc1 : Chg (fun k => k = p ∨ k = b ∨ k = s ∨ k = hb ∨ S k) w w6 := ((hc.mono (fun _ _ e => by omega)).drew).trans' q1 (fun _ _ e => by simp [e])
  have HB6 := Lib.hid (And.intro x1 (And.intro hc1 (And.intro hr1 hB1)))
  have kc1 := hB1.cellAt 1 R1.out
  clear kc u2 u3 x1 hc1 hr1 hB1 q1 hc hB hcall HXD HB5
  have u2 := d2
  have u3 := d3
  clear d2 d3
  go_wp2_with fail
  rw [rounds_succ]
  go_wp2_with fail
  obtain ⟨hx, hc, hJ, hB⟩ := HB6.out
  have hcall := Lib.hid (HF2.out _ (HJS.out _ _ _ hJ (Chg.drew (Chg.refl _ _))))
  have hxd : FutAt w6.drew b s l lb hb pb 2 last (-1) pl u .nilIface := hx.chg (S := fun _ => False) (Chg.drew (Chg.refl _ _)) (fun x => x) (fun x => x) (fun x => x) (fun x => x) (fun x => x) (fun x => x)
  have HXD := Lib.hid hxd
  clear hx hc hJ hB hxd
  go_region_held3 (fun w' => w'.cell? ⟨b, 2, none⟩ = some (.int .i64 u) ∧ w'.cell? ⟨b, 3, none⟩ = some .nilIface) (go_keep)
    (first | (refine hcall.out.mono ?_; rintro e w7 ⟨rfl, q2, hr2⟩; have x2 := hu1 q2 HXD.out; have d2 := x2.blk.cellAt 2 (v := .int .i64 u) rfl; have d3 := x2.blk.cellAt 3 (v := .nilIface) rfl))
  obtain ⟨_, hc, _, hB⟩ := HB6.out
  have hB2 : Blk w7 rb cs T := q2.blk hB.drew hrb
  have hc2 : Chg (fun k => k = p ∨ k = b ∨ k = s ∨ k = hb ∨ S k) w w7 := ((hc).drew).trans' q2 (fun _ _ e => by simp [e])
  have HB7 := Lib.hid (And.intro x2 (And.intro hc2 (And.intro hr2 hB2)))
  have kc2 := hB2.cellAt 2 R2.out
  clear kc1  x2 hc2 hr2 hB2 q2 hc hB hcall HXD HB6
  have u2 := d2
  have u3 := d3
  clear d2 d3
  go_wp2_with fail
  rw [rounds_succ]
  go_wp2_with fail
  obtain ⟨hx, hc, hJ, hB⟩ := HB7.out
  have hcall := Lib.hid (HF3.out _ (HJS.out _ _ _ hJ (Chg.drew (Chg.refl _ _))))
  have hxd : FutAt w7.drew b s l lb hb pb 2 last (-1) pl u .nilIface := hx.chg (S := fun _ => False) (Chg.drew (Chg.refl _ _)) (fun x => x) (fun x => x) (fun x => x) (fun x => x) (fun x => x) (fun x => x)
  have HXD := Lib.hid hxd
  clear hx hc hJ hB hxd
  go_region_held3 (fun w' => w'.cell? ⟨b, 2, none⟩ = some (.int .i64 u) ∧ w'.cell? ⟨b, 3, none⟩ = some .nilIface) (go_keep)
    (first | (refine hcall.out.mono ?_; rintro e w8 ⟨rfl, q3, hr3⟩; have x3 := hu1 q3 HXD.out; have d2 := x3.blk.cellAt 2 (v := .int .i64 u) rfl; have d3 := x3.blk.cellAt 3 (v := .nilIface) rfl))
  obtain ⟨_, hc, _, hB⟩ := HB7.out
  have hB3 : Blk w8 rb cs T := q3.blk hB.drew hrb
  have hc3 : Chg (fun k => k = p ∨ k = b ∨ k = s ∨ k = hb ∨ S k) w w8 := ((hc).drew).trans' q3 (fun _ _ e => by simp [e])
  have HE := Lib.hid (And.intro x3 (And.intro hr3 hc3))
  clear kc2 u2 u3 x3 hc3 hr3 hB3 q3 hc hB hcall HXD HB7
  go_wp2_with fail
  rw [rounds_succ]
  go_wp2_with fail
  go_ret
  exact ⟨rfl, HE.out.1, HE.out.2.1, HE.out.2.2⟩
theorem fut_complete_three (r : FR) (u : Int) (F1 F2 F3 : Nat) (c1 c2 c3 : Array Value) (S : Nat → Prop) (J : Nat → World → Prop) (h : FutF w r [(F1, c1), (F2, c2), (F3, c3)])
    (hS : ∀ k, r.has k → ¬ S k) (hSn : ∀ k, S k → k < w.heap.size)
    (hJ0 : ∀ w1, Chg (fun k => k = r.b ∨ k = r.s ∨ k = r.hb) w w1 → J 0 w1) (hJs : ∀ i w1 w2, J i w1 → Same w1 w2 → J i w2)
    (hf1 : Does S J u 0 F1 c1) (hf2 : Does S J u 1 F2 c2) (hf3 : Does S J u 2 F3 c3) :
    Calls Tryz.prog 28 #[.pointer (some ⟨r.b, 0, none⟩), .pointer none, .int .i64 u, .nilIface] w fun e w' =>
      e = .returned (.bool true) ∧ (∃ last pl, FutAt w' r.b r.s r.l r.lb r.hb r.pb 2 last (-1) pl u .nilIface) ∧ J 3 w' ∧ Chg (fun k => k = r.b ∨ k = r.s ∨ k = r.hb ∨ S k) w w' := by
  obtain ⟨pl, h, hst⟩ := h
  have hr : ∀ k, (k = r.b ∨ k = r.s ∨ k = r.l ∨ k = r.lb ∨ k = r.hb ∨ k = r.pb) → ¬ S k := hS
  have h' : FutAt w r.b r.s r.l r.lb r.hb r.pb 0 3 3 pl 0 .nilIface := h
  have hlt := h'.lt
  have H := Lib.hid (And.intro hst (And.intro hSn (And.intro hJ0 (And.intro hJs (And.intro hf1 (And.intro hf2 (And.intro hf3 hr)))))))
  clear h hst hSn hJ0 hJs hf1 hf2 hf3 hr hS
  go_enter Tryz.func28, Tryz.ntmps28
  go_wp2_with fail
  refine (fut_claim h').mono ?_
  rintro e w1 ⟨p, rfl, h1, hp, hz, g1⟩
  go_wp2_with fail
  obtain ⟨hst, hSn, hJ0, hJs, hf1, hf2, hf3, hr⟩ := H.out
  have hsz := g1.size
  refine (fut_fill_three p u F1 F2 F3 c1 c2 c3 S J h1 hst ⟨hr _ (.inl rfl), hr _ (.inr (.inl rfl)), hr _ (.inr (.inr (.inl rfl))), hr _ (.inr (.inr (.inr (.inl rfl)))), hr _ (.inr (.inr (.inr (.inr (.inl rfl))))), hr _ (.inr (.inr (.inr (.inr (.inr rfl))))), fun e => by have := hSn p e; omega⟩ (fun k e => Nat.lt_of_lt_of_le (hSn k e) hsz)
    (fun w2 hw2 => hJ0 w2 ((g1.mono (fun _ _ e => .inr (.inl e))).trans' hw2 (fun _ _ e => by omega))) hJs hf1 hf2 hf3 hp).mono ?_
  rintro e w2 ⟨rfl, h2, hr2, g2⟩
  have HE := Lib.hid (And.intro h2 hr2)
  clear hst hSn hJ0 hJs hf1 hf2 hf3 hr h2 hr2
  go_wp2_with fail
  go_ret
  exact ⟨rfl, ⟨_, _, HE.out.1⟩, HE.out.2, (g1.mono (fun _ _ e => .inr (.inl e))).trans' g2 (fun i hi e => by
    rcases e with e | e | e | e | e
    · omega
    · exact .inl e
    · exact .inr (.inl e)
    · exact .inr (.inr (.inl e))
    · exact .inr (.inr (.inr e)))⟩
end Go.Proofs.YtgljjgmfhememaaGreatDoor
