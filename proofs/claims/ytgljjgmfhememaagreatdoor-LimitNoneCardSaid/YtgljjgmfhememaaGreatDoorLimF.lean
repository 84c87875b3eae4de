/- Advance where one future's timer and one token's are due. Conditions: none. -/
import Derived.Test.YtgljjgmfhememaaGreatDoorLimE
namespace Go.Proofs.YtgljjgmfhememaaGreatDoor
open Go Go.RowKit Go.Sort
set_option maxRecDepth 100000
set_option maxHeartbeats 2000000
structure P2 where
  N : Nat
  B : Nat
  jf : Nat
  jt : Nat
  g : FR
  ka : Nat
  kb : Nat
  c : TR
  cb : Nat
  tb : Nat
  xb : Nat
  T1 : Int
  y : Int
def P2.tok (p : P2) (W : World) : Prop := Tok W p.c 0 1 1 (((epl0.setIfInBounds 3 (.pointer none)).setIfInBounds 4 (.func (.func 77) #[] #[.pointer (some ⟨p.tb, 0, none⟩), .pointer (some ⟨p.xb, 0, none⟩)])).setIfInBounds 5 (.int .i64 0)) 1
structure P2.Ok (p : P2) : Prop where
  jf : p.jf < 16
  jt : p.jt < 16
  ne : p.jf ≠ p.jt
  a : p.N + 35 ≤ p.ka ∧ p.ka < p.B
  b : p.N + 35 ≤ p.kb ∧ p.kb < p.B
  cb : p.N + 35 ≤ p.cb ∧ p.cb < p.B
  tb : p.N + 35 ≤ p.tb ∧ p.tb < p.B
  xb : p.N + 35 ≤ p.xb ∧ p.xb < p.B
  g : ∀ k, p.g.has k → p.N + 35 ≤ k ∧ k < p.B
  c : ∀ k, p.c.has k → p.N + 35 ≤ k ∧ k < p.B
  gc : ∀ k, p.g.has k → ¬ p.c.has k
  ga : ¬ p.g.has p.ka
  gb : ¬ p.g.has p.kb
  gcb : ¬ p.g.has p.cb
  gtb : ¬ p.g.has p.tb
  gxb : ¬ p.g.has p.xb
  ca : ¬ p.c.has p.ka
  cbb : ¬ p.c.has p.kb
  ccb : ¬ p.c.has p.cb
  ctb : ¬ p.c.has p.tb
  cxb : ¬ p.c.has p.xb
  lo : p.N + 35 ≤ p.B
  y0 : 0 ≤ p.y ∧ p.y ≤ 1000000
  y4 : p.y % 4 = 2
/-- What may turn. -/
def P2.S (p : P2) (k : Nat) : Prop := p.g.has k ∨ p.c.has k ∨ Turned p.N k
structure P2.I (p : P2) (w0 : World) (E : World → Prop) (l : List Nat) (W : World) : Prop where
  same : Same w0 W
  size : p.B ≤ W.heap.size
  ka : Blk W p.ka #[.pointer (some ⟨p.g.b, 0, none⟩)] 24
  kb : Blk W p.kb #[.int .i64 p.T1] 2
  cb : Blk W p.cb #[.pointer (some ⟨p.c.b, 0, none⟩)] 52
  tb : Blk W p.tb #[.pointer (some ⟨p.N + 2, 0, none⟩)] 50
  xb : Blk W p.xb #[.int .i64 p.jt, .int .i64 p.y] 151
  f1 : p.jf ∈ l → FutLate W p.g p.T1 p.B
  f0 : ¬ p.jf ∈ l → FutF W p.g []
  t1 : p.jt ∈ l → TokDead W p.c 1
  t0 : ¬ p.jt ∈ l → p.tok W
  e : E W
theorem P2.Ok.far {p : P2} (o : p.Ok) : (¬ Turned p.N p.ka) ∧ (¬ Turned p.N p.kb) ∧ (¬ Turned p.N p.cb) ∧ (¬ Turned p.N p.tb) ∧ (¬ Turned p.N p.xb) ∧ (∀ k, p.g.has k → ¬ Turned p.N k) ∧ (∀ k, p.c.has k → ¬ Turned p.N k) := by
  have := o.a; have := o.b; have := o.cb; have := o.tb; have := o.xb
  unfold Turned
  exact ⟨by omega, by omega, by omega, by omega, by omega, fun k hk => by have := o.g k hk; omega, fun k hk => by have := o.c k hk; omega⟩
theorem P2.I.turned {p : P2} {w0 : World} {E : World → Prop} (o : p.Ok) (hw0 : w0.heap.size ≤ p.N) (hE : ∀ W W' S, (∀ k, S k → p.S k) → Chg S W W' → E W → E W') {l : List Nat} {W W' : World} (h : p.I w0 E l W) (hc : Chg (Turned p.N) W W') : p.I w0 E l W' := by
  obtain ⟨n1, n2, n3, n4, n5, n6, n7⟩ := o.far
  have hlo := o.lo
  exact ⟨h.same.trans' hc (fun k hk e => by unfold Turned at e; omega), by have := h.size; have := hc.size; omega, hc.blk h.ka n1, hc.blk h.kb n2, hc.blk h.cb n3, hc.blk h.tb n4, hc.blk h.xb n5,
    fun e => (h.f1 e).chg hc n6 (fun k e => by unfold Turned at e; omega), fun e => (h.f0 e).chg hc n6, fun e => (h.t1 e).chg hc n7, fun e => Tok.chg (h.t0 e) hc n7, hE _ _ _ (fun k e => .inr (.inr e)) hc h.e⟩
theorem rings_two (p : P2) (o : p.Ok) (w0 : World) (hw0 : w0.heap.size ≤ p.N) (E : World → Prop) (hE : ∀ W W' S, (∀ k, S k → p.S k) → Chg S W W' → E W → E W') (T : Int) (st due : Nat → Int) (fs : Nat → Value)
    (hst : ∀ i, i < 16 → 0 ≤ st i ∧ st i ≤ 1000000) (hy : st p.jt = p.y) (hcand : ∀ i, i < 16 → Cand st due T i → i = p.jf ∨ i = p.jt)
    (hf : fs p.jf = .func (.func 72) #[] #[.pointer (some ⟨p.ka, 0, none⟩), .pointer (some ⟨p.kb, 0, none⟩)]) (ht : fs p.jt = deF p.cb) :
    Rings p.N (fun k => p.N ≤ k ∧ k < p.B) T st due fs (p.I w0 E) := by
  intro l j W hnd hl hjl hbest hI hck
  obtain ⟨n1, n2, n3, n4, n5, n6, n7⟩ := o.far
  have hlo := o.lo
  have hne := o.ne
  obtain ⟨_, hcj, hj16, hsj⟩ := best_new hl hbest
  rcases hcand j hj16 hcj with rfl | rfl
  · refine ⟨_, _, hf, fun a w => by kernel_rfl, ?_⟩
    refine (ring_late W p.g p.ka p.kb p.T1 p.B hI.size hI.ka hI.kb (hI.f0 hjl)).mono ?_
    rintro e W' ⟨rfl, hF, hc⟩
    refine ⟨rfl, ⟨hI.same.trans' hc (fun k hk e => by have := o.g k e; omega), by have := hI.size; have := hc.size; omega, hc.blk hI.ka o.ga, hc.blk hI.kb o.gb, hc.blk hI.cb o.gcb, hc.blk hI.tb o.gtb, hc.blk hI.xb o.gxb,
      fun _ => hF, fun hn => absurd (by simp) hn, fun hm => ?_, fun hn => ?_, hE _ _ _ (fun k e => .inl e) hc hI.e⟩, hck.chg hc (fun k h1 h2 e => n6 k e ⟨h1, h2⟩), hc.mono (fun k _ e => by have := o.g k e; exact ⟨by omega, this.2⟩)⟩
    · rcases List.mem_append.1 hm with hm | hm
      · exact (hI.t1 hm).chg hc (fun k hk e => o.gc k e hk)
      · exact absurd (List.mem_singleton.1 hm).symm hne
    · exact Tok.chg (hI.t0 (fun hm => hn (List.mem_append.2 (.inl hm)))) hc (fun k hk e => o.gc k e hk)
  · refine ⟨_, _, ht, fun a w => by kernel_rfl, ?_⟩
    have hsj' : upd (stA st l) p.jt (st p.jt + 1) p.jt = st p.jt + 1 := by simp [upd]
    have hy0 := o.y0
    refine (ring_time p.c p.cb p.tb p.xb p.jt hj16 p.y ⟨by omega, by omega⟩ o.y4 (by rw [hsj', hy]; omega) hI.cb hI.tb hI.xb (hI.t0 hjl) hck n7).mono ?_
    rintro e W' ⟨rfl, hD, hck', hc⟩
    refine ⟨rfl, ⟨hI.same.trans' hc (fun k hk e => by rcases e with e | e; have := o.c k e; omega; unfold Turned at e; omega), by have := hI.size; have := hc.size; omega, hc.blk hI.ka (fun e => e.elim o.ca n1), hc.blk hI.kb (fun e => e.elim o.cbb n2), hc.blk hI.cb (fun e => e.elim o.ccb n3), hc.blk hI.tb (fun e => e.elim o.ctb n4), hc.blk hI.xb (fun e => e.elim o.cxb n5),
      fun hm => ?_, fun hn => ?_, fun _ => hD, fun hn => absurd (by simp) hn, hE _ _ _ (fun k e => e.elim (fun e => .inr (.inl e)) (fun e => .inr (.inr e))) hc hI.e⟩, hck', hc.mono (fun k _ e => by rcases e with e | e; have := o.c k e; exact ⟨by omega, this.2⟩; unfold Turned at e; exact ⟨e.1, by omega⟩)⟩
    · rcases List.mem_append.1 hm with hm | hm
      · exact (hI.f1 hm).chg hc (fun k hk e => e.elim (o.gc k hk) (n6 k hk)) (fun k e => by rcases e with e | e; have := o.c k e; omega; unfold Turned at e; omega)
      · exact absurd (List.mem_singleton.1 hm) hne
    · exact (hI.f0 (fun hm => hn (List.mem_append.2 (.inl hm)))).chg hc (fun k hk e => e.elim (o.gc k hk) (n6 k hk))
theorem len_two {l : List Nat} {a b : Nat} (hnd : l.Nodup) (hl : ∀ i ∈ l, i = a ∨ i = b) (ha : a ∈ l) (hb : b ∈ l) (hab : a ≠ b) : l.length = 2 := by
  match l with
  | [] => cases ha
  | [x] => simp at ha hb; omega
  | [x, y] => rfl
  | x :: y :: z :: t =>
    exfalso
    have h1 := hl x (by simp)
    have h2 := hl y (by simp)
    have h3 := hl z (by simp)
    simp only [List.nodup_cons, List.mem_cons, not_or] at hnd
    omega
/-- What such an Advance leaves. -/
def Adv2 (p : P2) (w0 : World) (E : World → Prop) (e : Ending) (W : World) : Prop := e = .returned (.tuple #[.int .i64 2, .int .i64 0]) ∧ FutLate W p.g p.T1 p.B ∧ TokDead W p.c 1 ∧ E W ∧ Same w0 W
theorem advance_two (p : P2) (o : p.Ok) (w0 : World) (hw0 : w0.heap.size ≤ p.N) (E : World → Prop) (hE : ∀ W W' S, (∀ k, S k → p.S k) → Chg S W W' → E W → E W') (now T : Int) (st due : Nat → Int) (fs : Nat → Value) (W : World)
    (hck : Clk W p.N now 0 st due fs) (hst : ∀ i, i < 16 → 0 ≤ st i ∧ st i ≤ 1000000) (hy : st p.jt = p.y) (hcand : ∀ i, i < 16 → Cand st due T i → i = p.jf ∨ i = p.jt) (hcf : Cand st due T p.jf) (hct : Cand st due T p.jt)
    (hf : fs p.jf = .func (.func 72) #[] #[.pointer (some ⟨p.ka, 0, none⟩), .pointer (some ⟨p.kb, 0, none⟩)]) (ht : fs p.jt = deF p.cb)
    (n0 : 0 ≤ now ∧ now ≤ 4611686018427387904) (d : Int) (d0 : 0 ≤ d) (d1 : d ≤ 9223372036854775807) (hT : T = now + min d (4611686018427387904 - now)) (hI : p.I w0 E [] W) :
    Calls Tryz.prog 24 #[.pointer (some ⟨p.N + 2, 0, none⟩), .pointer none, .int .i64 d] W (Adv2 p w0 E) := by
  refine (clk_advance hck hst n0 d d0 d1 T hT (p.I w0 E) (fun l W W' h hc => h.turned o hw0 hE hc) hI (fun k => p.N ≤ k ∧ k < p.B) (fun k e => Nat.lt_of_lt_of_le e.2 hI.size) (rings_two p o w0 hw0 E hE T st due fs hst hy hcand hf ht)).mono ?_
  rintro e W' ⟨l, rfl, hnd, hl, hbest, hI', _⟩
  have hin : ∀ j, j < 16 → Cand st due T j → j ∈ l := fun j hj hc => by
    by_cases hjl : j ∈ l
    · exact hjl
    · exact absurd ⟨by unfold stA; rw [if_neg hjl]; exact hc.1, hc.2⟩ (hbest j hj)
  have h1 := hin _ o.jf hcf
  have h2 := hin _ o.jt hct
  have hlen := len_two hnd (fun i hi => hcand i (hl i hi).1 (hl i hi).2) h1 h2 o.ne
  refine ⟨by rw [hlen]; rfl, hI'.f1 h1, hI'.t1 h2, hI'.e, hI'.same⟩
end Go.Proofs.YtgljjgmfhememaaGreatDoor
