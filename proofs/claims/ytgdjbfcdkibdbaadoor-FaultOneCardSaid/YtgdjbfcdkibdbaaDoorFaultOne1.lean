/- treadlelaw12.FaultOne, its walk, at the kind 1. Conditions: errors.errorType, internal/strconv.uint64pow10 hold what the program lays. -/
import Derived.Test.YtgdjbfcdkibdbaaDoorFO
namespace Go.Proofs.YtgdjbfcdkibdbaaDoor
open Go Go.RowKit
set_option maxRecDepth 100000
set_option maxHeartbeats 4000000
theorem faultOne_1 (kind num : Int) (v : Value) (zs : List Int) (w : World) (k0 : -9223372036854775808 ≤ kind) (k1 : kind ≤ 9223372036854775807) (hK : (kind.tmod 4 + 4).tmod 4 = 0) (hv : Ints w v zs)
    (hg : ErrType w) (hl : 1 < w.heap.size) (hp : Pow w) :
    Calls Tryd.prog 6 #[.int .i64 kind, .int .i64 num, v] w fun e w' => e = .returned (.bool true) ∧ Same w w' := by
  have hw : wrap64 (kind.tmod 4 + 4) = kind.tmod 4 + 4 := by
    have h1 := Int.tmod_lt_of_pos kind (show (0:Int) < 4 by decide)
    have h2 := Int.lt_tmod_of_pos kind (show (0:Int) < 4 by decide)
    unfold wrap64
    omega
  obtain ⟨p0, cap0, rfl⟩ := hv.slice
  have hvH := Lib.hid hv
  clear hv
  go_enter Tryd.func6, Tryd.ntmps6
  go_wp2_with fail
  refine (brought_ok w 1 num _ zs (by decide) (by decide) hvH.out (by decide) (by decide)).mono ?_
  rintro e w1 ⟨v', rfl, hv1, s1⟩
  rw [show bKind 1 = 1 from by decide]
  have hlen : (zs.take 1000).length ≤ 1000 := by rw [List.length_take]; omega
  generalize zs.take 1000 = ats at *
  clear hvH hK hw
  obtain ⟨p, cap, rfl⟩ := hv1.slice
  go_wp2_with fail
  have kd : Blk (w1.alloc (.cells #[.int .i64 1, .int .i64 num, .slice p ats.length cap] 43)) w1.heap.size #[.int .i64 1, .int .i64 num, .slice p ats.length cap] 43 := Blk.new _ _ _
  have s2 : Same w1 (w1.alloc (.cells #[.int .i64 1, .int .i64 num, .slice p ats.length cap] 43)) := (Chg.refl _ _).alloc _
  have hv2 := hv1.same s2
  have m2 := s1.trans s2
  generalize hdb : w1.heap.size = db at *
  generalize (w1.alloc (.cells #[.int .i64 1, .int .i64 num, .slice p ats.length cap] 43)) = w2 at *
  refine (make_1 w2 num _ [] ⟨by simp, .inl ⟨none, 0, rfl, rfl⟩⟩ (by simp)).mono ?_
  rintro e w3 ⟨x0, rfl, he3, s3⟩
  have kd3 := s3.blk kd (fun x => x)
  have hv3 := hv2.same s3
  have m3 := m2.trans s3
  clear kd hv2 hv1 s2 s3 m2 s1
  rcases ErrAt.shape he3 with ⟨_, _, h⟩ | ⟨E0, y0, rfl⟩
  · cases h
  have c2 := kd3.cellAt 2 (v := .slice p ats.length cap) rfl
  have hv3' := Lib.hid hv3
  clear hv3
  go_wp2_with fail
  go_loopw [8, 9] (fun x i wr => ∃ (m : Nat) (E : TypeId) (y : Value), m ≤ ats.length ∧ x = .iface E y ∧ i = .int .i64 ((m : Int) - 1) ∧ ErrAt wr (ats.drop m ++ []) (some (Base.failed num)) x ∧ Same w3 wr) (fun _ i _ => (intOf i + 1).toNat)
  case atStart => exact ⟨ats.length, _, _, Nat.le_refl _, rfl, rfl, by simpa using he3, Chg.refl _ _⟩
  case round =>
  rename World => wr
  obtain ⟨m, E, y, hm, rfl, rfl, he, hs⟩ := hrel
  have m4 := m3.trans hs
  have kd4 := hs.blk kd3 (fun x => x)
  have d2 := kd4.cellAt 2 (v := .slice p ats.length cap) rfl
  rcases m with _ | m
  case succ =>
    obtain ⟨b, off, cap', hp', hbl, hc⟩ := hv3'.out.at (by rintro rfl; simp at hm)
    obtain ⟨rfl, rfl⟩ : p = some ⟨b, off, none⟩ ∧ cap = cap' := by simpa using hp'
    have d1 := (hs.cell (p := ⟨b, off + m, none⟩) hbl (fun x => x)).trans (hc m (by omega))
    have hcast : ((m + 1 : Nat) : Int) - 1 = (m : Int) := by omega
    rw [hcast] at *
    clear hc hp' hv3' c2
    go_wp2_with fail
    refine (wrap_ok _ _ _ _).mono ?_
    rintro e w' ⟨rfl, rfl⟩
    go_wp2_with fail
    refine ⟨⟨m, _, _, by omega, rfl, rfl, ?_, hs.alloc _⟩, ?_⟩
    · have e1 : ats.drop m = ats.getD m 0 :: ats.drop (m + 1) := by
        rw [List.drop_eq_getElem_cons (by omega)]
        simp [List.getElem?_eq_getElem (show m < ats.length by omega)]
      rw [e1]
      refine ⟨wr.heap.size, .iface E y, rfl, ?_, ErrAt.same ((Chg.refl _ _).alloc _) he⟩
      have := Blk.new wr #[.int .i64 (ats[m]?.getD 0), .iface E y] 120
      simpa using this
    · simp only [intOf]; omega
  case zero =>
  have he' : ErrAt wr ats (some (Base.failed num)) (.iface E y) := by simpa using he
  have FF : FO w wr db 1 num (.slice p ats.length cap) ats (Base.failed num) (.iface E y) := ⟨kd4, hv3'.out.same hs, he', m4⟩
  clear he he3 hv3' c2 d2 kd3 kd4 m3 m4 hs he' hm
  go_wp2_with fail
  have kA : Blk (wr.alloc (.cells #[.int .i64 23, .int .i64 20, .int .i64 21, .int .i64 22] 35)) wr.heap.size #[.int .i64 23, .int .i64 20, .int .i64 21, .int .i64 22] 35 := Blk.new _ _ _
  have F4 := FF.same (show Same wr (wr.alloc (.cells #[.int .i64 23, .int .i64 20, .int .i64 21, .int .i64 22] 35)) from (Chg.refl _ _).alloc _)
  clear FF
  generalize hab : wr.heap.size = ab at *
  generalize (wr.alloc (.cells #[.int .i64 23, .int .i64 20, .int .i64 21, .int .i64 22] 35)) = w4 at *
  have hl4 : 1 < w4.heap.size := Nat.lt_of_lt_of_le hl F4.m.size
  have hg4 := hg.same F4.m hl
  have hIs : ∀ (t : Int) W', Same w4 W' → Calls Tryd.prog 45 #[.iface E y, .iface 35 (.int .i64 t)] W' fun e w' => e = .returned (.bool (decide ((23 : Int) = t))) ∧ W' = w' :=
    fun t W' h => Is_ok (ats.length + 1) E y 23 t W' (ErrAt.isCh (B := Base.failed num) (by intro a h; cases h) (F4.e.same h))
  have hCl : ∀ W', Same w4 W' → Calls Tryd.prog 13 #[.iface E y] W' fun e w' => e = .returned (.int .i64 23) ∧ Same W' w' :=
    fun W' h => class_any (B := some (Base.failed num)) W' (F4.e.same h) (hg4.same h hl4) (Nat.lt_of_lt_of_le hl4 h.size)
  have HF := Lib.hid F4
  have hlen4 := Lib.hid hlen
  clear F4 hlen hdb hab
  go_loopw [11, 12] (fun f i wr => ((f = .int .i64 0 ∧ i = .int .i64 0) ∨ (f = .int .i64 1 ∧ i = .int .i64 1) ∨ (f = .int .i64 1 ∧ i = .int .i64 2) ∨ (f = .int .i64 1 ∧ i = .int .i64 3) ∨ (f = .int .i64 1 ∧ i = .int .i64 4)) ∧ Same w4 wr) (fun _ i _ => 4 - (intOf i).toNat)
  case atStart => exact ⟨.inl ⟨rfl, rfl⟩, Chg.refl _ _⟩
  case round =>
  skip
  rename World => wr
  obtain ⟨hcase, hs⟩ := hrel
  have kA' := hs.blk kA (fun x => x)
  rcases hcase with ⟨rfl, rfl⟩ | ⟨rfl, rfl⟩ | ⟨rfl, rfl⟩ | ⟨rfl, rfl⟩ | ⟨rfl, rfl⟩
  · have a0 := kA'.cellAt 0 (v := .int .i64 23) rfl
    clear kA kA'
    go_wp2_with fail
    refine (hIs 23 _ hs).mono ?_
    rintro e w' ⟨rfl, rfl⟩
    go_wp2_with fail
    go_region_held3 (fun w' => w'.cell? ⟨ab, 0, none⟩ = some (.int .i64 23)) (go_keep)
      (first | (go_at_call 13; refine (hCl _ hs.drew).mono ?_; rintro e w' ⟨rfl, g2⟩; have d1 := (g2.cell (World.block_lt_of_cell? _ _ a0) (fun x => x)).trans a0))
    have m5 := hs.drew.trans g2
    clear hIs hCl d1 a0 g2 hs
    go_wp2_with fail
    go_roundw
    case rel => first | exact ⟨.inr (.inl ⟨rfl, rfl⟩), m5⟩ | ((repeat apply Exists.intro); exact ⟨⟨.inr (.inl ⟨rfl, rfl⟩), m5⟩, rfl⟩)
    case measure => simp [intOf]
  · have a0 := kA'.cellAt 1 (v := .int .i64 20) rfl
    clear kA kA'
    go_wp2_with fail
    refine (hIs 20 _ hs).mono ?_
    rintro e w' ⟨rfl, rfl⟩
    clear hIs hCl a0
    go_wp2_with fail
    go_roundw
    case rel => first | exact ⟨.inr (.inr (.inl ⟨rfl, rfl⟩)), hs⟩ | ((repeat apply Exists.intro); exact ⟨⟨.inr (.inr (.inl ⟨rfl, rfl⟩)), hs⟩, rfl⟩)
    case measure => simp [intOf]
  · have a0 := kA'.cellAt 2 (v := .int .i64 21) rfl
    clear kA kA'
    go_wp2_with fail
    refine (hIs 21 _ hs).mono ?_
    rintro e w' ⟨rfl, rfl⟩
    clear hIs hCl a0
    go_wp2_with fail
    go_roundw
    case rel => first | exact ⟨.inr (.inr (.inr (.inl ⟨rfl, rfl⟩))), hs⟩ | ((repeat apply Exists.intro); exact ⟨⟨.inr (.inr (.inr (.inl ⟨rfl, rfl⟩))), hs⟩, rfl⟩)
    case measure => simp [intOf]
  · have a0 := kA'.cellAt 3 (v := .int .i64 22) rfl
    clear kA kA'
    go_wp2_with fail
    refine (hIs 22 _ hs).mono ?_
    rintro e w' ⟨rfl, rfl⟩
    clear hIs hCl a0
    go_wp2_with fail
    go_roundw
    case rel => first | exact ⟨.inr (.inr (.inr (.inr ⟨rfl, rfl⟩))), hs⟩ | ((repeat apply Exists.intro); exact ⟨⟨.inr (.inr (.inr (.inr ⟨rfl, rfl⟩))), hs⟩, rfl⟩)
    case measure => simp [intOf]
  · clear kA kA' hIs hCl
    go_wp2_with fail
    have k1 : Blk ((((wr.alloc (.cells #[.pointer none] 55)).alloc (.cells #[.pointer none] 56)).alloc (.cells #[.pointer none] 57)).alloc (.cells #[.pointer none] 58)) wr.heap.size #[.pointer none] 55 := (((Blk.new _ _ _).alloc _).alloc _).alloc _
    have k2 : Blk ((((wr.alloc (.cells #[.pointer none] 55)).alloc (.cells #[.pointer none] 56)).alloc (.cells #[.pointer none] 57)).alloc (.cells #[.pointer none] 58)) (wr.heap.size + 1) #[.pointer none] 56 := ((Blk.neww (by simp) _ _).alloc _).alloc _
    have k3 : Blk ((((wr.alloc (.cells #[.pointer none] 55)).alloc (.cells #[.pointer none] 56)).alloc (.cells #[.pointer none] 57)).alloc (.cells #[.pointer none] 58)) (wr.heap.size + 1 + 1) #[.pointer none] 57 := (Blk.neww (by simp) _ _).alloc _
    have k4 : Blk ((((wr.alloc (.cells #[.pointer none] 55)).alloc (.cells #[.pointer none] 56)).alloc (.cells #[.pointer none] 57)).alloc (.cells #[.pointer none] 58)) (wr.heap.size + 1 + 1 + 1) #[.pointer none] 58 := Blk.neww (by simp) _ _
    have m5 : Same w4 ((((wr.alloc (.cells #[.pointer none] 55)).alloc (.cells #[.pointer none] 56)).alloc (.cells #[.pointer none] 57)).alloc (.cells #[.pointer none] 58)) := (((hs.alloc _).alloc _).alloc _).alloc _
    have hz4 := hs.size
    generalize ((((wr.alloc (.cells #[.pointer none] 55)).alloc (.cells #[.pointer none] 56)).alloc (.cells #[.pointer none] 57)).alloc (.cells #[.pointer none] 58)) = w5 at *
    generalize wr.heap.size = tb at *
    clear hs
    obtain ⟨u, hu, hch0⟩ := HF.out.e.split
    have hch := Lib.hid hch0
    obtain ⟨b, rfl, hb⟩ := hu
    have hblt := hb.lt
    clear hch0
    refine (As_hit_Failed (ats.length + 1) E y w5 tb (some ⟨b, 0, none⟩) (.pointer none) (hg4.same m5 hl4) (Nat.lt_of_lt_of_le hl4 m5.size) k1 (fun w1 h1 => hch.out w1 (m5.trans h1) _ _ noAt_Failed (ch_hit_Failed b w1))).mono ?_
    rintro e w6 ⟨rfl, s6, t6⟩
    have m6 : Same w4 w6 := m5.trans' s6 (fun i hi e => by omega)
    have k26 := s6.blk k2 (by omega)
    have k36 := s6.blk k3 (by omega)
    have k46 := s6.blk k4 (by omega)
    have c0 := t6.cellAt 0 (v := .pointer (some ⟨b, 0, none⟩)) rfl
    have c1 := (m6.blk hb (fun x => x)).cellAt 0 (v := .int .i64 num) rfl
    clear m5 s6 k1 k2 k3 k4 t6
    go_wp2_with fail
    clear c0 c1
    refine (As_none_Cancelled (ats.length + 1) E y w6 (tb + 1) (hg4.same m6 hl4) (Nat.lt_of_lt_of_le hl4 m6.size) (fun w1 h1 => hch.out w1 (m6.trans h1) _ _ noAt_Cancelled (ch_Failed_Cancelled b w1))).mono ?_
    rintro e w7 ⟨rfl, s7⟩
    have m7 := m6.trans s7
    have k37 := s7.blk k36 (fun x => x)
    have k47 := s7.blk k46 (fun x => x)
    clear m6 s7 k26 k36 k46
    go_wp2_with fail
    refine (As_none_Late (ats.length + 1) E y w7 (tb + 1 + 1) (hg4.same m7 hl4) (Nat.lt_of_lt_of_le hl4 m7.size) (fun w1 h1 => hch.out w1 (m7.trans h1) _ _ noAt_Late (ch_Failed_Late b w1))).mono ?_
    rintro e w8 ⟨rfl, s8⟩
    have m8 := m7.trans s8
    have k48 := s8.blk k47 (fun x => x)
    clear m7 s8 k37 k47
    go_wp2_with fail
    refine (As_none_Panicked (ats.length + 1) E y w8 (tb + 1 + 1 + 1) (hg4.same m8 hl4) (Nat.lt_of_lt_of_le hl4 m8.size) (fun w1 h1 => hch.out w1 (m8.trans h1) _ _ noAt_Panicked (ch_Failed_Panicked b w1))).mono ?_
    rintro e w9 ⟨rfl, s9⟩
    have m9 := m8.trans s9

    clear m8 s9 k48
    go_wp2_with fail
    clear hch
    refine (numbers_ok w9 ats (some (Base.failed num)) (.iface E y) (HF.out.e.same m9) (by have := hlen4.out; omega) (hg4.same m9 hl4) (Nat.lt_of_lt_of_le hl4 m9.size)).mono ?_
    rintro e w10 ⟨r, rfl, hr, s10⟩
    have m10 := m9.trans s10
    have hdd := m10.blk HF.out.d (fun x => x)
    have e0 := hdd.cellAt 0 (v := .int .i64 1) rfl
    have e2 := hdd.cellAt 2 (v := .slice p ats.length cap) rfl
    have hI := Lib.hid (HF.out.i.same m10)
    have hR := Lib.hid hr
    clear hdd hr m9 s10
    go_wp2_with fail
    refine (sameInts_ok w10 r _ ats hR.out hI.out).mono ?_
    rintro e w11 ⟨rfl, s11⟩
    have m11 := (HF.out.m.trans m10).trans s11
    clear hR hI e0 e2 m10 s11 hb
    go_wp2_with fail
    refine (works12 w11 (hg.same m11 hl) (Nat.lt_of_lt_of_le hl m11.size) (hp.same m11)).mono ?_
    rintro e w12 ⟨rfl, s12⟩
    go_wp2_with fail
    go_ret
    exact ⟨rfl, m11.trans s12⟩
end Go.Proofs.YtgdjbfcdkibdbaaDoor
