/- All, Any and Quorum of two futures together: what each function does to the state. Conditions: none. -/
import Derived.Test.YtgljjgmfhememaaGreatDoorJoinO
namespace Go.Proofs.YtgljjgmfhememaaGreatDoor
open Go Go.RowKit Go.Sort
set_option maxRecDepth 100000
set_option maxHeartbeats 1000000
/-- The blocks that the functions may turn. -/
def Par.S (p : Par) (k : Nat) : Prop := p.n1 ≤ k ∧ k < p.n4
structure Par.Up (p : Par) : Prop where
  a : p.n1 ≤ p.n2
  b : p.n2 ≤ p.n3
  c : p.n3 ≤ p.n4
variable {p : Par} {W : World} {left a0 a1 n : Int} {o1 o2 o3 : Option Int}
/-- A step within All's part. -/
theorem St.in1 {W' : World} {left' a0' a1' : Int} {o1' : Option Int} (u : p.Up) (h : St p W left a0 a1 n o1 o2 o3) (hc : Chg (fun k => p.n1 ≤ k ∧ k < p.n2) W W') (hj : J2 W' p.g1 p.kl p.ke p.kj p.kx p.i0 p.i1 left' a0' a1') (hf : keepF W' p.g1 o1') : St p W' left' a0' a1' n o1' o2 o3 := by
  have := u.a; have := u.b; have := u.c
  exact ⟨h.all.with hj, h.any.chg hc (fun e => by have := h.any.b6; omega), h.quo.chg hc (fun k hk _ e => by omega), hf, keepF.chg (o := o2) h.f2 hc (fun k hk e => by have := h.any.bg k hk; omega), keepF.chg (o := o3) h.f3 hc (fun k hk e => by have := h.quo.bg k hk; omega)⟩
theorem St.in2 {W' : World} {o2' : Option Int} (u : p.Up) (h : St p W left a0 a1 n o1 o2 o3) (hc : Chg p.g2.has W W') (hf : keepF W' p.g2 o2') : St p W' left a0 a1 n o1 o2' o3 := by
  have := u.a; have := u.b; have := u.c
  exact ⟨h.all.chg hc (fun k hk hk' e => by have := h.any.bg k e; omega), h.any.chg hc h.any.g6, h.quo.chg hc (fun k hk _ e => by have := h.any.bg k e; omega), keepF.chg (o := o1) h.f1 hc (fun k hk e => by have := h.any.bg k e; have := h.all.bg k hk; omega), hf, keepF.chg (o := o3) h.f3 hc (fun k hk e => by have := h.any.bg k e; have := h.quo.bg k hk; omega)⟩
/-- What is left of all at the end. -/
structure Fin (p : Par) (W : World) (left a0 a1 v1 v2 v3 : Int) : Prop where
  j2 : J2 W p.g1 p.kl p.ke p.kj p.kx p.i0 p.i1 left a0 a1
  f1 : FutV W p.g1 v1
  f2 : FutV W p.g2 v2
  f3 : FutV W p.g3 v3
theorem callFunc_57 : ∀ (a : Array Value) (w : World), (callFunc 57 a).run Tryz.prog w = .ok (.enter 57 a) w := fun a w => by kernel_rfl
theorem callFunc_60 : ∀ (a : Array Value) (w : World), (callFunc 60 a).run Tryz.prog w = .ok (.enter 60 a) w := fun a w => by kernel_rfl
theorem callFunc_63 : ∀ (a : Array Value) (w : World), (callFunc 63 a).run Tryz.prog w = .ok (.enter 63 a) w := fun a w => by kernel_rfl
/-- The states while the second one's functions are called. -/
def JB (p : Par) (i : Nat) (W : World) : Prop := match i with
  | 0 => St p W 2 0 0 0 none none none
  | 1 => St p W 1 0 2 0 none none none
  | 2 => St p W 1 0 2 0 none (some 2) none
  | _ => St p W 1 0 2 1 none (some 2) none
/-- The states while the first one's functions are called. -/
def JA (p : Par) (i : Nat) (W : World) : Prop := match i with
  | 0 => St p W 1 0 2 1 none (some 2) none
  | 1 => St p W 0 1 2 1 (some 2) (some 2) none
  | 2 => St p W 0 1 2 1 (some 2) (some 2) none
  | _ => Fin p W 0 1 2 2 2 2
theorem b_all (u : p.Up) : Does p.S (JB p) 2 0 57 #[.pointer (some ⟨p.kx, 0, none⟩), .pointer (some ⟨p.i1, 0, none⟩)] := by
  refine ⟨fun _ _ _ w => callFunc_57 _ w, fun w1 h => ?_⟩
  have h : St p w1 2 0 0 0 none none none := h
  have := u.a; have := u.b; have := u.c
  refine (all_fun_1 w1 _ _ _ _ _ _ _ 2 0 0 2 h.all.j2 ⟨by omega, by omega⟩).mono ?_
  rintro e w2 ⟨rfl, hj, hc⟩
  have hc' : Chg (fun k => p.n1 ≤ k ∧ k < p.n2) w1 w2 := hc.mono (fun k _ e => by
    have := h.all.bl; have := h.all.be
    rcases e with rfl | rfl <;> omega)
  exact ⟨rfl, hc'.mono (fun k _ e => ⟨e.1, by omega⟩), h.in1 u hc' hj (FutF.chg h.f1 hc (fun k hk e => by
    rcases e with rfl | rfl
    · exact h.all.gl hk
    · exact h.all.ge hk))⟩
theorem b_any (u : p.Up) (x y z : Value) : Does p.S (JB p) 2 1 60 #[.pointer (some ⟨p.k6, 0, none⟩), x, y, z] := by
  refine ⟨fun _ _ _ w => callFunc_60 _ w, fun w1 h => ?_⟩
  have h : St p w1 1 0 2 0 none none none := h
  have := u.a; have := u.b; have := u.c
  refine (any_fun_open w1 _ _ 2 x y z h.any.box h.f2).mono ?_
  rintro e w2 ⟨rfl, hj, hc⟩
  exact ⟨rfl, hc.mono (fun k _ e => by have := h.any.bg k e; exact ⟨by omega, by omega⟩), h.in2 u hc (o2' := some 2) hj⟩
theorem b_quo (u : p.Up) (x y : Value) : Does p.S (JB p) 2 2 63 #[.pointer (some ⟨p.kgd, 0, none⟩), .pointer (some ⟨p.kw, 0, none⟩), .pointer (some ⟨p.kg, 0, none⟩), x, y] := by
  refine ⟨fun _ _ _ w => callFunc_63 _ w, fun w1 h => ?_⟩
  have h : St p w1 1 0 2 0 none (some 2) none := h
  have := u.a; have := u.b; have := u.c
  refine (q_fun_more w1 2 0 _ _ _ _ _ 2 x y h.quo.qn ⟨by omega, by omega⟩ (by omega)).mono ?_
  rintro e w2 ⟨rfl, hq, hc⟩
  have hb := h.quo.b1
  refine ⟨rfl, hc.mono (fun k _ e => by have e : k = p.gd := e; exact ⟨by omega, by omega⟩), ?_⟩
  exact ⟨h.all.chg hc (fun k hk hk' e => by have e : k = p.gd := e; omega), h.any.chg hc (fun e => by have e : p.k6 = p.gd := e; have := h.any.b6; omega), ⟨hq, h.quo.b1, h.quo.b2, h.quo.b3, h.quo.b4, h.quo.bg, h.quo.gd⟩,
    FutF.chg h.f1 hc (fun k hk e => by have e : k = p.gd := e; have := h.all.bg k hk; omega), FutV.chg (v := 2) h.f2 hc (fun k hk e => by have e : k = p.gd := e; have := h.any.bg k hk; omega), FutF.chg h.f3 hc (fun k hk e => by have e : k = p.gd := e; exact h.quo.gd (e ▸ hk))⟩
theorem a_all (u : p.Up) : Does p.S (JA p) 1 0 57 #[.pointer (some ⟨p.kx, 0, none⟩), .pointer (some ⟨p.i0, 0, none⟩)] := by
  refine ⟨fun _ _ _ w => callFunc_57 _ w, fun w1 h => ?_⟩
  have h : St p w1 1 0 2 1 none (some 2) none := h
  have := u.a; have := u.b; have := u.c
  refine (all_last_0 w1 _ _ _ _ _ _ _ 0 2 1 h.all.j2 h.f1 h.all.gl h.all.ge).mono ?_
  rintro e w2 ⟨rfl, hf, hj, hc⟩
  have hc' : Chg (fun k => p.n1 ≤ k ∧ k < p.n2) w1 w2 := hc.mono (fun k _ e => by
    have := h.all.bl; have := h.all.be
    rcases e with rfl | rfl | e
    · omega
    · omega
    · exact h.all.bg k e)
  exact ⟨rfl, hc'.mono (fun k _ e => ⟨e.1, by omega⟩), h.in1 u hc' hj (o1' := some 2) hf⟩
theorem a_any (u : p.Up) (x y z : Value) : Does p.S (JA p) 1 1 60 #[.pointer (some ⟨p.k6, 0, none⟩), x, y, z] := by
  refine ⟨fun _ _ _ w => callFunc_60 _ w, fun w1 h => ?_⟩
  have h : St p w1 0 1 2 1 (some 2) (some 2) none := h
  refine (any_fun_done w1 _ _ 1 2 x y z h.any.box h.f2).mono ?_
  rintro e w2 ⟨rfl, rfl⟩
  exact ⟨rfl, Chg.refl _ _, h⟩
theorem a_quo (u : p.Up) (x y : Value) : Does p.S (JA p) 1 2 63 #[.pointer (some ⟨p.kgd, 0, none⟩), .pointer (some ⟨p.kw, 0, none⟩), .pointer (some ⟨p.kg, 0, none⟩), x, y] := by
  refine ⟨fun _ _ _ w => callFunc_63 _ w, fun w1 h => ?_⟩
  have h : St p w1 0 1 2 1 (some 2) (some 2) none := h
  have := u.a; have := u.b; have := u.c
  refine (q_fun_full w1 p.g3 2 1 _ _ _ _ 1 x y h.quo.qn ⟨by omega, by omega⟩ (by omega) h.f3 h.quo.gd).mono ?_
  rintro e w2 ⟨rfl, hq, hc⟩
  have hb := h.quo.b1
  have hc' : Chg (fun k => p.n3 ≤ k ∧ k < p.n4) w1 w2 := hc.mono (fun k _ e => by
    rcases e with rfl | e
    · omega
    · exact h.quo.bg k e)
  refine ⟨rfl, hc'.mono (fun k _ e => ⟨by omega, by omega⟩), ?_⟩
  exact ⟨(h.all.chg hc' (fun k hk hk' e => by omega)).j2, FutV.chg (v := 2) h.f1 hc' (fun k hk e => by have := h.all.bg k hk; omega), FutV.chg (v := 2) h.f2 hc' (fun k hk e => by have := h.any.bg k hk; omega), hq⟩
theorem JB.same (u : p.Up) : ∀ i w1 w2, JB p i w1 → Same w1 w2 → JB p i w2 := by
  intro i w1 w2 h s
  match i with
  | 0 => exact St.chg (o1 := none) (o2 := none) (o3 := none) h s (fun _ _ x => x) u.a u.b
  | 1 => exact St.chg (o1 := none) (o2 := none) (o3 := none) h s (fun _ _ x => x) u.a u.b
  | 2 => exact St.chg (o1 := none) (o2 := some 2) (o3 := none) h s (fun _ _ x => x) u.a u.b
  | _ + 3 => exact St.chg (o1 := none) (o2 := some 2) (o3 := none) h s (fun _ _ x => x) u.a u.b
theorem JA.same (u : p.Up) : ∀ i w1 w2, JA p i w1 → Same w1 w2 → JA p i w2 := by
  intro i w1 w2 h s
  match i with
  | 0 => exact St.chg (o1 := none) (o2 := some 2) (o3 := none) h s (fun _ _ x => x) u.a u.b
  | 1 => exact St.chg (o1 := some 2) (o2 := some 2) (o3 := none) h s (fun _ _ x => x) u.a u.b
  | 2 => exact St.chg (o1 := some 2) (o2 := some 2) (o3 := none) h s (fun _ _ x => x) u.a u.b
  | _ + 3 => exact ⟨h.j2.chg s (fun x => x) (fun x => x) (fun x => x) (fun x => x) (fun x => x) (fun x => x), h.f1.chg s (fun _ _ x => x), h.f2.chg s (fun _ _ x => x), h.f3.chg s (fun _ _ x => x)⟩
end Go.Proofs.YtgljjgmfhememaaGreatDoor
