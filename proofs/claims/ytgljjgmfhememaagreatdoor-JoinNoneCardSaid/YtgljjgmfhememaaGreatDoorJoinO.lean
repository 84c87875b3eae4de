/- Values of a joint of two that is over. Conditions: none. -/
import Derived.Test.YtgljjgmfhememaaGreatDoorJoinN
namespace Go.Proofs.YtgljjgmfhememaaGreatDoor
open Go Go.RowKit Go.Sort
set_option maxRecDepth 100000
set_option maxHeartbeats 1000000
theorem values_two (w : World) (g : FR) (kl ke kj kx i0 i1 : Nat) (left a0 a1 v : Int) (h : J2 w g kl ke kj kx i0 i1 left a0 a1) (hg : FutV w g v) :
    Calls Tryz.prog 14 #[.pointer (some ⟨kj, 0, none⟩), .pointer none] w fun e w' => ∃ lb, e = .returned (.tuple #[.slice (some ⟨lb, 0, none⟩) 2 2, .nilIface]) ∧ Blk w' lb #[.int .i64 a0, .int .i64 a1] 2 ∧ Same w w' := by
  have c0 := h.joint.cellAt 0 (v := .pointer (some ⟨g.b, 0, none⟩)) rfl
  have hnn : ∀ w, (binOp .neq 29 .nilIface .nilIface).run Tryz.prog w = .ok (.bool false) w := fun w => by kernel_rfl
  have hmk : ∀ w, (Instr.makeSlice 42 (.int .i64 2) (.int .i64 2)).run Tryz.prog w = .ok (.slice (some ⟨w.heap.size, 0, none⟩) 2 2) (w.alloc (.cells #[.int .i64 0, .int .i64 0] 2)) := fun w => by kernel_rfl
  have H := Lib.hid (And.intro h hg)
  clear h hg
  go_enter Tryz.func14, Tryz.ntmps14
  go_wp2_with fail
  refine (await_done _ _ _ H.out.2).mono ?_
  rintro e w1 ⟨rfl, s1⟩
  have hj := H.out.1.chg s1 (fun x => x) (fun x => x) (fun x => x) (fun x => x) (fun x => x) (fun x => x)
  have c2 := hj.joint.cellAt 2 (v := .slice (some ⟨ke, 0, none⟩) 2 2) rfl
  have d0 := hj.ends.cellAt 0 (v := .int .i64 a0) rfl
  have d1 := hj.ends.cellAt 1 (v := .nilIface) rfl
  have d2 := hj.ends.cellAt 2 (v := .int .i64 a1) rfl
  have d3 := hj.ends.cellAt 3 (v := .nilIface) rfl
  have lt1 := hj.joint.lt
  have lt2 := hj.ends.lt
  have HJ := Lib.hid (And.intro hj s1)
  clear hj c0 s1 H
  go_wp2_with fail
  refine wp_loop_rounds 3 ?_; rw [rounds_succ]
  go_wp2_with fail
  rw [rounds_succ]
  go_wp2_with fail
  rw [rounds_succ]
  go_wp2_with fail
  go_ret2
  exact ⟨_, rfl, ((Blk.new _ _ _).alloc _).alloc _, ((HJ.out.2.alloc _).alloc _).alloc _⟩
theorem ptrs_two {w : World} {q : Nat} {x y : Option Addr} {T : TypeId} (h : Blk w q #[.pointer x, .pointer y] T) : Ptrs w (.slice (some ⟨q, 0, none⟩) 2 2) [x, y] := by
  refine ⟨by simp, .inr ⟨q, 0, 2, rfl, fun j hj => ?_⟩⟩
  simp only [List.length_cons, List.length_nil] at hj
  obtain rfl | rfl : j = 0 ∨ j = 1 := by omega
  · exact h.cellAt 0 rfl
  · exact h.cellAt 1 rfl
theorem apart_two {ra rb : FR} {n : Nat} (h1 : ∀ k, ra.has k → k < n) (h2 : ∀ k, rb.has k → n ≤ k) : Apart [ra, rb] := by
  intro i j hi hj hij k hk hk'
  simp only [List.length_cons, List.length_nil] at hi hj
  obtain rfl | rfl : i = 0 ∨ i = 1 := by omega
  · obtain rfl : j = 1 := by omega
    have := h1 k hk; have := h2 k hk'; omega
  · obtain rfl : j = 0 := by omega
    have := h2 k hk; have := h1 k hk'; omega
/-- All's part of the world: all its blocks lie from lo on, below hi. -/
structure All2 (W : World) (lo hi : Nat) (g : FR) (kl ke kj kx i0 i1 : Nat) (left a0 a1 : Int) : Prop where
  j2 : J2 W g kl ke kj kx i0 i1 left a0 a1
  bl : lo ≤ kl ∧ kl < hi
  be : lo ≤ ke ∧ ke < hi
  bj : lo ≤ kj ∧ kj < hi
  bx : lo ≤ kx ∧ kx < hi
  b0 : lo ≤ i0 ∧ i0 < hi
  b1 : lo ≤ i1 ∧ i1 < hi
  bg : ∀ k, g.has k → lo ≤ k ∧ k < hi
  gl : ¬ g.has kl
  ge : ¬ g.has ke
theorem All2.chg {S : Nat → Prop} {W W' : World} {lo hi : Nat} {g : FR} {kl ke kj kx i0 i1 : Nat} {left a0 a1 : Int} (h : All2 W lo hi g kl ke kj kx i0 i1 left a0 a1) (hc : Chg S W W') (hn : ∀ k, lo ≤ k → k < hi → ¬ S k) : All2 W' lo hi g kl ke kj kx i0 i1 left a0 a1 :=
  ⟨h.j2.chg hc (hn _ h.bj.1 h.bj.2) (hn _ h.bl.1 h.bl.2) (hn _ h.be.1 h.be.2) (hn _ h.bx.1 h.bx.2) (hn _ h.b0.1 h.b0.2) (hn _ h.b1.1 h.b1.2), h.bl, h.be, h.bj, h.bx, h.b0, h.b1, h.bg, h.gl, h.ge⟩
theorem All2.with {W W' : World} {lo hi : Nat} {g : FR} {kl ke kj kx i0 i1 : Nat} {left a0 a1 left' a0' a1' : Int} (h : All2 W lo hi g kl ke kj kx i0 i1 left a0 a1) (hj : J2 W' g kl ke kj kx i0 i1 left' a0' a1') : All2 W' lo hi g kl ke kj kx i0 i1 left' a0' a1' :=
  ⟨hj, h.bl, h.be, h.bj, h.bx, h.b0, h.b1, h.bg, h.gl, h.ge⟩
/-- Any's. -/
structure Any2 (W : World) (lo hi : Nat) (g : FR) (k6 : Nat) : Prop where
  box : Blk W k6 #[.pointer (some ⟨g.b, 0, none⟩)] 24
  b6 : lo ≤ k6 ∧ k6 < hi
  bg : ∀ k, g.has k → lo ≤ k ∧ k < hi
  g6 : ¬ g.has k6
theorem Any2.chg {S : Nat → Prop} {W W' : World} {lo hi : Nat} {g : FR} {k6 : Nat} (h : Any2 W lo hi g k6) (hc : Chg S W W') (hn : ¬ S k6) : Any2 W' lo hi g k6 := ⟨hc.blk h.box hn, h.b6, h.bg, h.g6⟩
/-- Quorum's. -/
structure Q2 (W : World) (lo hi : Nat) (g : FR) (k : Int) (gd kg kgd kw : Nat) (n : Int) : Prop where
  qn : QN W k g.b gd kg kgd kw n
  b1 : lo ≤ gd ∧ gd < hi
  b2 : lo ≤ kg ∧ kg < hi
  b3 : lo ≤ kgd ∧ kgd < hi
  b4 : lo ≤ kw ∧ kw < hi
  bg : ∀ k, g.has k → lo ≤ k ∧ k < hi
  gd : ¬ g.has gd
theorem Q2.chg {S : Nat → Prop} {W W' : World} {lo hi : Nat} {g : FR} {k n : Int} {gd kg kgd kw : Nat} (h : Q2 W lo hi g k gd kg kgd kw n) (hc : Chg S W W') (hn : ∀ k, lo ≤ k → k < hi → ¬ S k) : Q2 W' lo hi g k gd kg kgd kw n :=
  ⟨h.qn.chg hc (hn _ h.b1.1 h.b1.2) (hn _ h.b2.1 h.b2.2) (hn _ h.b3.1 h.b3.2) (hn _ h.b4.1 h.b4.2), h.b1, h.b2, h.b3, h.b4, h.bg, h.gd⟩
/-- All three: what the second future's Complete begins with (J 0 .. J 3), then the first one's (K 0 .. K 3). -/
structure Par where
  n1 : Nat
  n2 : Nat
  n3 : Nat
  n4 : Nat
  g1 : FR
  kl : Nat
  ke : Nat
  kj : Nat
  kx : Nat
  i0 : Nat
  i1 : Nat
  g2 : FR
  k6 : Nat
  g3 : FR
  gd : Nat
  kg : Nat
  kgd : Nat
  kw : Nat
structure St (p : Par) (W : World) (left a0 a1 n : Int) (o1 o2 o3 : Option Int) : Prop where
  all : All2 W p.n1 p.n2 p.g1 p.kl p.ke p.kj p.kx p.i0 p.i1 left a0 a1
  any : Any2 W p.n2 p.n3 p.g2 p.k6
  quo : Q2 W p.n3 p.n4 p.g3 2 p.gd p.kg p.kgd p.kw n
  f1 : match o1 with | none => FutF W p.g1 [] | some v => FutV W p.g1 v
  f2 : match o2 with | none => FutF W p.g2 [] | some v => FutV W p.g2 v
  f3 : match o3 with | none => FutF W p.g3 [] | some v => FutV W p.g3 v
def keepF (W : World) (g : FR) (o : Option Int) : Prop := match o with | none => FutF W g [] | some v => FutV W g v
theorem keepF.chg {S : Nat → Prop} {W W' : World} {g : FR} {o : Option Int} (h : keepF W g o) (hc : Chg S W W') (hn : ∀ k, g.has k → ¬ S k) : keepF W' g o := by
  cases o with
  | none => exact FutF.chg h hc hn
  | some v => exact FutV.chg h hc hn
theorem St.chg {p : Par} {S : Nat → Prop} {W W' : World} {left a0 a1 n : Int} {o1 o2 o3 : Option Int} (h : St p W left a0 a1 n o1 o2 o3) (hc : Chg S W W') (hn : ∀ k, p.n1 ≤ k → ¬ S k) (h12 : p.n1 ≤ p.n2) (h23 : p.n2 ≤ p.n3) : St p W' left a0 a1 n o1 o2 o3 :=
  ⟨h.all.chg hc (fun k hk _ => hn k hk), h.any.chg hc (hn _ (Nat.le_trans h12 h.any.b6.1)), h.quo.chg hc (fun k hk _ => hn k (by omega)),
   keepF.chg (o := o1) h.f1 hc (fun k hk => hn k (h.all.bg k hk).1), keepF.chg (o := o2) h.f2 hc (fun k hk => hn k (by have := (h.any.bg k hk).1; omega)), keepF.chg (o := o3) h.f3 hc (fun k hk => hn k (by have := (h.quo.bg k hk).1; omega))⟩
end Go.Proofs.YtgljjgmfhememaaGreatDoor
