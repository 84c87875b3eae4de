/- memo's Get that fails; of a key that is there; of one too many. Conditions: math/bits.deBruijn64tab holds what the program lays. -/
import Derived.Test.YtgdjbfcdkibdbaaGreatDoorMemoD
namespace Go.Proofs.YtgdjbfcdkibdbaaGreatDoor
open Go Go.RowKit
set_option maxRecDepth 100000
set_option maxHeartbeats 2000000
theorem get_fail (k : Nat) (hk : k ≤ 12) (n : Nat) (hn : pw k = n) {w : World} {m pb : Nat} {cs : Array Value} (h : MemoB w m pb n cs) (ht : Tab w) (key : Int) (h0 : 0 ≤ key) (h1 : key < 9223372036854775807) (i : Nat) (hi : placeOf k key = i) (hin : i < n)
    {lo hh c b s l lb hb q : Nat} {last v0 : Int} {pl : Array Value} {x0 : Value} (P : PlaceAt w cs i lo hh c b s l lb hb q 0 0 last 0 v0 pl x0) (F : Nat) (cap : Array Value) (u : Int) (E : TypeId) (y : Value) (SB : Nat → Prop) (R : World → Prop)
    (hE : ∀ a w, (callFunc F (#[a] ++ cap)).run Tryz.prog w = .ok (.enter F (#[a] ++ cap)) w)
    (hf : ∀ W, Chg (GetS c b s hb) w W → Calls Tryz.prog F (#[.pointer none] ++ cap) W fun e W' => e = .returned (.tuple #[.int .i64 u, .iface E y]) ∧ Chg SB W W' ∧ R W')
    (hR : ∀ W W' S, R W → Chg S W W' → (∀ j, SB j → ¬ S j) → R W') (hSB : ∀ j, SB j → j < w.heap.size ∧ j ≠ c ∧ j ≠ b ∧ j ≠ s ∧ j ≠ l ∧ j ≠ lb ∧ j ≠ hb ∧ j ≠ q ∧ j ≠ m ∧ j ≠ pb) :
    Calls Tryz.prog 15 #[.pointer (some ⟨m, 0, none⟩), .pointer none, .int .i64 key, .func (.func F) #[] cap] w fun e w' => e = .returned (.tuple #[.int .i64 0, .iface E y, .bool true]) ∧
      CellAt w' c (key + 1) ∧ FutAt w' b s l lb hb q 3 last (-1) pl 0 (.iface E y) ∧ R w' ∧ Chg (fun j => GetS c b s hb j ∨ SB j) w w' := by
  have hnn := build_not_nil F cap
  have nec := P.nec
  have fne := P.fut.ne
  have flt := P.fut.lt
  have hcl := P.cell.lt
  have nb1 : c ≠ b := P.cell.ne P.fut.blk (by decide)
  have nb2 : c ≠ l := P.cell.ne P.fut.list.blk (by decide)
  have nb3 : c ≠ q := P.cell.ne P.fut.list.places (by decide)
  have sW : Same w ((w.alloc (.cells #[.pointer none] 29)).alloc (.cells #[.func (.func F) #[] cap] 32)) := ((Chg.refl _ _).alloc _).alloc _
  have kt : Blk ((w.alloc (.cells #[.pointer none] 29)).alloc (.cells #[.func (.func F) #[] cap] 32)) w.heap.size #[.pointer none] 29 := (Blk.new _ _ _).alloc _
  have kf : Blk ((w.alloc (.cells #[.pointer none] 29)).alloc (.cells #[.func (.func F) #[] cap] 32)) (w.heap.size + 1) #[.func (.func F) #[] cap] 32 := Blk.neww (by simp) _ _
  have HSB := Lib.hid hSB
  have HR := Lib.hid hR
  have HF := Lib.hid hf
  have HE := Lib.hid hE
  have hz : w.heap.size + 2 = ((w.alloc (.cells #[.pointer none] 29)).alloc (.cells #[.func (.func F) #[] cap] 32)).heap.size := by simp
  clear hSB hR hf hE
  have P' := Lib.hid P
  clear P
  go_enter Tryz.func15, Tryz.ntmps15
  go_wp2_with fail
  generalize ((w.alloc (.cells #[.pointer none] 29)).alloc (.cells #[.func (.func F) #[] cap] 32)) = w1 at *
  have hz' := Lib.hid hz
  clear hz
  refine (memo_made (h.chg sW (fun x => x) (fun x => x)) (by omega)).mono ?_
  rintro e w' ⟨rfl, rfl⟩
  have f0 := kf.cellAt 0 (v := .func (.func F) #[] cap) rfl
  have hkx : (key == 9223372036854775807) = false := by simp; omega
  have hkl : decide (key < 0) = false := by simp; omega
  have t0 := kt.cellAt 0 (v := .pointer none) rfl
  go_wp2_with fail
  refine (find_new k hk n hn (h.chg sW (fun x => x) (fun x => x)) (ht.same sW) key h0 h1 i hi hin c b P'.out.k0 P'.out.k1 (P'.out.cell.chg sW (fun x => x))).mono ?_
  rintro e w2 ⟨rfl, hc2, g2⟩
  have kt2 := g2.blk kt (by omega)
  have kf2 := g2.blk kf (by omega)
  have F2 := (P'.out.fut.chg sW (fun x => x) (fun x => x) (fun x => x) (fun x => x) (fun x => x) (fun x => x)).chg g2 (by omega) (by omega) (by omega) (by omega) (by omega) (by omega)
  clear t0 f0 kt kf hnn
  have G2 : Chg (GetS c b s hb) w w2 := (sW.mono (fun _ _ e => absurd e (fun x => x))).trans (g2.mono (fun _ _ e => .inl e))
  have hzz := hz'.out
  have hzz2 := g2.size
  have t2 := (kt2.alloc (.cells #[.pointer (some ⟨c, 0, none⟩), .pointer (some ⟨b, 0, none⟩)] 132)).cellAt 0 (v := .pointer none) rfl
  clear g2 sW h ht hi
  go_wp2_with fail
  have kt3 : Blk (w2.alloc (.cells #[.pointer (some ⟨c, 0, none⟩), .pointer (some ⟨b, 0, none⟩)] 132)) w.heap.size #[.pointer none] 29 := kt2.alloc _
  have kf3 : Blk (w2.alloc (.cells #[.pointer (some ⟨c, 0, none⟩), .pointer (some ⟨b, 0, none⟩)] 132)) (w.heap.size + 1) #[.func (.func F) #[] cap] 32 := kf2.alloc _
  have kp3 : Blk (w2.alloc (.cells #[.pointer (some ⟨c, 0, none⟩), .pointer (some ⟨b, 0, none⟩)] 132)) w2.heap.size #[.pointer (some ⟨c, 0, none⟩), .pointer (some ⟨b, 0, none⟩)] 132 := Blk.new _ _ _
  have s3 : Same w2 (w2.alloc (.cells #[.pointer (some ⟨c, 0, none⟩), .pointer (some ⟨b, 0, none⟩)] 132)) := (Chg.refl _ _).alloc _
  have F3 := F2.chg s3 (fun x => x) (fun x => x) (fun x => x) (fun x => x) (fun x => x) (fun x => x)
  have hc3 := hc2.chg s3 (fun x => x)
  have G3 : Chg (GetS c b s hb) w _ := G2.trans (s3.mono (fun _ _ e => absurd e (fun x => x)))
  generalize (w2.alloc (.cells #[.pointer (some ⟨c, 0, none⟩), .pointer (some ⟨b, 0, none⟩)] 132)) = w3 at *
  have hz3 := s3.size
  clear F2 hc2 kt2 kf2 s3 G2 kp3 t2
  refine (fut_claim F3).mono ?_
  rintro e w4 ⟨p, rfl, F4, hp4, hpz, g4⟩
  have kt4 := g4.blk kt3 (by omega)
  have kf4 := g4.blk kf3 (by omega)
  have hc4 := hc3.chg g4 (by omega)
  have G4 : Chg (GetS c b s hb) w w4 := G3.trans (g4.mono (fun _ _ e => .inr (.inr (.inl e))))
  clear F3 hc3 kt3 kf3 G3 g4
  have t0 := kt4.cellAt 0 (v := .pointer none) rfl
  go_wp2_with fail
  refine (mark_nil _ _ _).mono ?_
  rintro e w' ⟨rfl, rfl⟩
  have hmf := makeFunc_run
  go_wp2_with fail
  have hpl := hp4.lt
  have hfl := F4.lt
  have hcl4 := hc4.lt
  have hktl := kt4.lt
  have np1 : p ≠ c := hp4.ne hc4 (by decide)
  refine (catch_error 69 #[.pointer (some ⟨w.heap.size + 1, 0, none⟩), .pointer (some ⟨w.heap.size, 0, none⟩)] w4 u E y (fun W => R W ∧ Chg (fun j => GetS c b s hb j ∨ SB j) w W ∧ CellAt W c (key + 1) ∧ FutAt W b s l lb hb q 1 last 0 pl v0 x0 ∧ Blk W p #[.pointer (some ⟨b, 0, none⟩)] 218 ∧ Blk W w.heap.size #[.pointer none] 29) (fun _ => by kernel_rfl) ?_).mono ?_
  · have sc : Same w4 (catchW w4) := ((Chg.refl _ _).alloc _).alloc _
    refine (get_inner (catchW w4) w.heap.size (w.heap.size + 1) F cap (fun e W' => Chg SB (catchW w4) W' ∧ R W') (sc.blk kt4 (fun x => x)) (sc.blk kf4 (fun x => x)) HE.out (.iface E y) u (HF.out (catchW w4) (G4.trans (sc.mono (fun _ _ e => absurd e (fun x => x)))))).mono ?_
    rintro e W ⟨rfl, gB, hRW⟩
    have nB : ∀ j, w.heap.size ≤ j → ¬ SB j := fun j hj hs => by have := (HSB.out j hs).1; omega
    have fB := (F4.chg sc (fun x => x) (fun x => x) (fun x => x) (fun x => x) (fun x => x) (fun x => x)).chg gB (fun hs => (HSB.out _ hs).2.2.1 rfl) (fun hs => (HSB.out _ hs).2.2.2.1 rfl) (fun hs => (HSB.out _ hs).2.2.2.2.1 rfl) (fun hs => (HSB.out _ hs).2.2.2.2.2.1 rfl) (fun hs => (HSB.out _ hs).2.2.2.2.2.2.1 rfl) (fun hs => (HSB.out _ hs).2.2.2.2.2.2.2.1 rfl)
    refine ⟨rfl, gB.blk ((Blk.new _ _ _).alloc _) (nB _ (by omega)), gB.blk (Blk.neww (by simp) _ _) (nB _ (by omega)), hRW, ?_, (hc4.chg sc (fun x => x)).chg gB (fun hs => (HSB.out _ hs).2.1 rfl), fB, gB.blk (sc.blk hp4 (fun x => x)) (nB _ (by omega)), gB.blk (sc.blk kt4 (fun x => x)) (nB _ (by omega))⟩
    exact ((G4.trans (sc.mono (fun _ _ e => absurd e (fun x => x)))).mono (fun _ _ e => .inl e)).trans (gB.mono (fun _ _ e => .inr e))
  rintro e w5 ⟨rfl, w6, ⟨r6, g6, c6, f6, p6, t6⟩, gc⟩
  have r7 := HR.out _ _ _ r6 gc (fun j hj => by have := (HSB.out j hj).1; omega)
  have f7 := f6.chg gc (by omega) (by omega) (by omega) (by omega) (by omega) (by omega)
  have c7 := c6.chg gc (by omega)
  have p7 := gc.blk p6 (by omega)
  have t7 := gc.blk t6 (by omega)
  have g7 : Chg (fun j => GetS c b s hb j ∨ SB j) w w5 := g6.trans' gc (fun j hj e => by omega)
  clear r6 g6 c6 f6 p6 t6 gc kt4 kf4 hp4 F4 hc4 G4 t0 hmf
  have t0 := t7.cellAt 0 (v := .pointer none) rfl
  have R7 := Lib.hid r7
  clear r7
  go_wp2_with fail
  refine (mark_nil _ _ _).mono ?_
  rintro e w' ⟨rfl, rfl⟩
  go_wp2_with fail
  refine (fut_fill_fail p 0 E y f7 p7).mono ?_
  rintro e w8 ⟨rfl, f8, _, g8⟩
  have c8 := c7.chg g8 (by omega)
  have r8 := HR.out _ _ _ R7.out g8 (fun j hj => by
    obtain ⟨a1, a2, a3, a4, a5, a6, a7, a8, a9, a10⟩ := HSB.out j hj
    omega)
  have R8 := Lib.hid r8
  have g9 : Chg (fun j => GetS c b s hb j ∨ SB j) w w8 := g7.trans' g8 (fun j hj e => by
    rcases e with e | e | e | e
    · omega
    · exact .inl (.inr (.inl e))
    · exact .inl (.inr (.inr (.inl e)))
    · exact .inl (.inr (.inr (.inr e))))
  clear r8 f7 p7 t7 t0 g7 g8 c7
  go_wp2_with fail
  go_ret3
  exact ⟨rfl, c8, f8, R8.out, g9⟩
theorem get_old (k : Nat) (hk : k ≤ 12) (n : Nat) (hn : pw k = n) {w : World} {m pb : Nat} {cs : Array Value} (h : MemoB w m pb n cs) (ht : Tab w) (key : Int) (h0 : 0 ≤ key) (h1 : key < 9223372036854775807) (i : Nat) (hi : placeOf k key = i) (hin : i < n)
    {c b s l lb hb q : Nat} {st last head v0 : Int} {pl : Array Value} {x0 : Value} (k0 : cs[2 * i]? = some (.pointer (some ⟨c, 0, none⟩))) (k1 : cs[2 * i + 1]? = some (.pointer (some ⟨b, 0, none⟩))) (hc : CellAt w c (key + 1)) (hF : FutAt w b s l lb hb q st last head pl v0 x0) (hst : 2 ≤ st) (F : Nat) (cap : Array Value) :
    Calls Tryz.prog 15 #[.pointer (some ⟨m, 0, none⟩), .pointer none, .int .i64 key, .func (.func F) #[] cap] w fun e w' => e = .returned (.tuple #[.int .i64 v0, x0, .bool false]) ∧ Same w w' := by
  have hnn := build_not_nil F cap
  have sW : Same w ((w.alloc (.cells #[.pointer none] 29)).alloc (.cells #[.func (.func F) #[] cap] 32)) := ((Chg.refl _ _).alloc _).alloc _
  have kt : Blk ((w.alloc (.cells #[.pointer none] 29)).alloc (.cells #[.func (.func F) #[] cap] 32)) w.heap.size #[.pointer none] 29 := (Blk.new _ _ _).alloc _
  have kf : Blk ((w.alloc (.cells #[.pointer none] 29)).alloc (.cells #[.func (.func F) #[] cap] 32)) (w.heap.size + 1) #[.func (.func F) #[] cap] 32 := Blk.neww (by simp) _ _
  go_enter Tryz.func15, Tryz.ntmps15
  go_wp2_with fail
  generalize ((w.alloc (.cells #[.pointer none] 29)).alloc (.cells #[.func (.func F) #[] cap] 32)) = w1 at *
  refine (memo_made (h.chg sW (fun x => x) (fun x => x)) (by omega)).mono ?_
  rintro e w' ⟨rfl, rfl⟩
  have f0 := kf.cellAt 0 (v := .func (.func F) #[] cap) rfl
  have hkx : (key == 9223372036854775807) = false := by simp; omega
  have hkl : decide (key < 0) = false := by simp; omega
  have t0 := kt.cellAt 0 (v := .pointer none) rfl
  go_wp2_with fail
  refine (find_old k hk n hn (h.chg sW (fun x => x) (fun x => x)) (ht.same sW) key h0 h1 i hi hin c b k0 k1 (hc.chg sW (fun x => x))).mono ?_
  rintro e w2 ⟨rfl, g2⟩
  have kt2 := g2.blk kt (fun x => x)
  have F2 := (hF.chg sW (fun x => x) (fun x => x) (fun x => x) (fun x => x) (fun x => x) (fun x => x)).chg g2 (fun x => x) (fun x => x) (fun x => x) (fun x => x) (fun x => x) (fun x => x)
  have m2 := sW.trans g2
  clear t0 f0 kt kf hnn sW g2 h ht hi k0 k1 hc hF
  have t2 := (kt2.alloc (.cells #[.pointer (some ⟨c, 0, none⟩), .pointer (some ⟨b, 0, none⟩)] 132)).cellAt 0 (v := .pointer none) rfl
  go_wp2_with fail
  have s3 : Same w2 (w2.alloc (.cells #[.pointer (some ⟨c, 0, none⟩), .pointer (some ⟨b, 0, none⟩)] 132)) := (Chg.refl _ _).alloc _
  have F3 := F2.chg s3 (fun x => x) (fun x => x) (fun x => x) (fun x => x) (fun x => x) (fun x => x)
  have m3 := m2.trans s3
  have kp3 : Blk (w2.alloc (.cells #[.pointer (some ⟨c, 0, none⟩), .pointer (some ⟨b, 0, none⟩)] 132)) w2.heap.size #[.pointer (some ⟨c, 0, none⟩), .pointer (some ⟨b, 0, none⟩)] 132 := Blk.new _ _ _
  have kt3 := s3.blk kt2 (fun x => x)
  generalize (w2.alloc (.cells #[.pointer (some ⟨c, 0, none⟩), .pointer (some ⟨b, 0, none⟩)] 132)) = w3 at *
  clear F2 kt2 s3 m2 t2
  refine (fut_claim_no F3 (by omega)).mono ?_
  rintro e w' ⟨rfl, rfl⟩
  have t0 := kt3.cellAt 0 (v := .pointer none) rfl
  have p1 := kp3.cellAt 1 (v := .pointer (some ⟨b, 0, none⟩)) rfl
  go_wp2_with fail
  refine (fut_await F3 hst).mono ?_
  rintro e w4 ⟨rfl, s4⟩
  go_wp2_with fail
  go_ret3
  exact ⟨rfl, m3.trans s4⟩
theorem get_full {w : World} {m pb : Nat} {cs : Array Value} (h : MemoB w m pb 2 cs) (ht : Tab w) (c0 b0 c1 b1 : Nat) (g0 : cs[0]? = some (.pointer (some ⟨c0, 0, none⟩))) (g1 : cs[1]? = some (.pointer (some ⟨b0, 0, none⟩))) (g2 : cs[2]? = some (.pointer (some ⟨c1, 0, none⟩))) (g3 : cs[3]? = some (.pointer (some ⟨b1, 0, none⟩)))
    (hc0 : CellAt w c0 3) (hc1 : CellAt w c1 2) (F : Nat) (cap : Array Value) :
    Calls Tryz.prog 15 #[.pointer (some ⟨m, 0, none⟩), .pointer none, .int .i64 3, .func (.func F) #[] cap] w fun e w' => e = .returned (.tuple #[.int .i64 0, num 12, .bool false]) ∧ Same w w' := by
  have hnn := build_not_nil F cap
  have sW : Same w ((w.alloc (.cells #[.pointer none] 29)).alloc (.cells #[.func (.func F) #[] cap] 32)) := ((Chg.refl _ _).alloc _).alloc _
  have kt : Blk ((w.alloc (.cells #[.pointer none] 29)).alloc (.cells #[.func (.func F) #[] cap] 32)) w.heap.size #[.pointer none] 29 := (Blk.new _ _ _).alloc _
  have kf : Blk ((w.alloc (.cells #[.pointer none] 29)).alloc (.cells #[.func (.func F) #[] cap] 32)) (w.heap.size + 1) #[.func (.func F) #[] cap] 32 := Blk.neww (by simp) _ _
  go_enter Tryz.func15, Tryz.ntmps15
  go_wp2_with fail
  generalize ((w.alloc (.cells #[.pointer none] 29)).alloc (.cells #[.func (.func F) #[] cap] 32)) = w1 at *
  refine (memo_made (h.chg sW (fun x => x) (fun x => x)) (by omega)).mono ?_
  rintro e w' ⟨rfl, rfl⟩
  have f0 := kf.cellAt 0 (v := .func (.func F) #[] cap) rfl
  have t0 := kt.cellAt 0 (v := .pointer none) rfl
  go_wp2_with fail
  refine (find_3 (h.chg sW (fun x => x) (fun x => x)) (ht.same sW) c0 b0 c1 b1 g0 g1 g2 g3 (hc0.chg sW (fun x => x)) (hc1.chg sW (fun x => x))).mono ?_
  rintro e w2 ⟨rfl, s2⟩
  clear h ht g0 g1 g2 g3 hc0 hc1 t0 f0 kt kf hnn
  go_wp2_with fail
  go_ret3
  exact ⟨rfl, (sW.trans s2).alloc _⟩
end Go.Proofs.YtgdjbfcdkibdbaaGreatDoor
