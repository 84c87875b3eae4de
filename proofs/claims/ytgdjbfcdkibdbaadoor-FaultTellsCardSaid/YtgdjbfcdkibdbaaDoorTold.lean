/- treadlelaw12.Told at every error of this chapter: what it is, by its types. Conditions: none. -/
import Derived.Test.YtgdjbfcdkibdbaaDoorRefT
import Derived.Deep.RegionLaw
import Derived.Deep.AppendLies
import Derived.OwnWalk
namespace Go.Proofs.YtgdjbfcdkibdbaaDoor
open Go Go.RowKit Go.Sort
set_option maxRecDepth 100000
set_option maxHeartbeats 2000000
/-- A panic's value, as a number. -/
def PNum (x : Value) (n : Int) : Prop := ∃ b, ∀ w, (Instr.typeAssert x 20 2 true).run Tryd.prog w = .ok (.tuple #[.int .i64 n, .bool b]) w
/-- A described error: kind, number. -/
def Desc : Base → Int → Int → Prop
  | .failed m, K, n => K = 1 ∧ n = m
  | .cancelled m, K, n => K = 2 ∧ n = m
  | .late m, K, n => K = 3 ∧ n = m
  | .panicked x, K, n => K = 4 ∧ PNum x n
  | .plain _, K, n => K = 5 ∧ n = 0
  | .errno m, K, n => K = 7 ∧ n = m
/-- .. with its wrappings. -/
def DescO (l : List Int) : Option Base → Int → Int → List Int → Prop
  | some B, K, n, zs => Desc B K n ∧ zs = l
  | none, K, n, zs => (l = [] ∧ K = 0 ∧ n = 0 ∧ zs = []) ∨ (K = 6 ∧ l = zs ++ [n])
theorem pnum_int64 (n : Int) : PNum (.iface 2 (.int .i64 n)) n := ⟨true, fun w => by kernel_rfl⟩
/-- What stands in Told's round. -/
structure ToldS (w wr : World) (d : List Int) (acc : Value) : Prop where
  res : Blk wr w.heap.size #[.int .i64 0, .int .i64 0, .slice none 0 0] 43
  dd : Blk wr (w.heap.size + 1) #[.int .i64 0, .int .i64 0, acc] 43
  own : wr.ownsRow (w.heap.size + 2) 3 1 acc d.length (d.map (Value.int .i64))
  m : Same w wr
theorem ints_of_own' {w : World} {base : Nat} {v : Value} {zs : List Int} (ho : w.ownsRow base 3 1 v zs.length (zs.map (Value.int .i64))) : ∀ a n c, v = .slice (some a) n c → base ≤ a.block := by
  rintro a n c rfl
  obtain ⟨_, ⟨h, _⟩ | ⟨g, cap, cur, h, hb, _⟩⟩ := ho
  · cases h
  · cases h; exact hb
theorem Ints.chg {w w' : World} {S : Nat → Prop} {v : Value} {zs : List Int} (h : Ints w v zs) (hs : Chg S w w') (hn : ∀ a n c, zs ≠ [] → v = .slice (some a) n c → ¬ S a.block) : Ints w' v zs := by
  obtain ⟨hl, h⟩ := h
  refine ⟨hl, ?_⟩
  rcases h with h | ⟨b, off, cap, rfl, hcp, hc⟩
  · exact .inl h
  · exact .inr ⟨b, off, cap, rfl, hcp, fun j hj => (hs.cell (p := ⟨b, off + j, none⟩) (World.block_lt_of_cell? w ⟨b, off + j, none⟩ (hc j hj)) (hn ⟨b, off, none⟩ zs.length cap (by rintro rfl; simp at hj) rfl)).trans (hc j hj)⟩
theorem chg_one (w : World) (b : Nat) (x : Value) : Chg (· = b) w (w.setCell ⟨b, 0, none⟩ x) := Chg.setCell (S := fun k => k = b) (p := ⟨b, 0, none⟩) (Chg.refl _ _) (.inl rfl) _
theorem chg_two (w : World) (b : Nat) (x y : Value) : Chg (· = b) w ((w.setCell ⟨b, 0, none⟩ x).setCell ⟨b, 1, none⟩ y) := Chg.setCell (S := fun k => k = b) (p := ⟨b, 1, none⟩) (chg_one w b x) (.inl rfl) _
/-- The end: the description is laid into the result. -/
theorem told_end {w wr W1 : World} {d : List Int} {acc : Value} (hS : ToldS w wr d acc) (hd : d.length ≤ 4000) (K n : Int) (h1 : Chg (· = w.heap.size + 1) wr W1) :
    Blk (((W1.setCell ⟨w.heap.size, 0, none⟩ (.int .i64 K)).setCell ⟨w.heap.size, 1, none⟩ (.int .i64 n)).setCell ⟨w.heap.size, 2, none⟩ acc) w.heap.size #[.int .i64 K, .int .i64 n, acc] 43 ∧
    Ints (((W1.setCell ⟨w.heap.size, 0, none⟩ (.int .i64 K)).setCell ⟨w.heap.size, 1, none⟩ (.int .i64 n)).setCell ⟨w.heap.size, 2, none⟩ acc) acc d ∧
    Same w (((W1.setCell ⟨w.heap.size, 0, none⟩ (.int .i64 K)).setCell ⟨w.heap.size, 1, none⟩ (.int .i64 n)).setCell ⟨w.heap.size, 2, none⟩ acc) := by
  have b1 := h1.blk hS.res (by omega)
  have h2 : Chg (fun k => k = w.heap.size ∨ k = w.heap.size + 1) wr (((W1.setCell ⟨w.heap.size, 0, none⟩ (.int .i64 K)).setCell ⟨w.heap.size, 1, none⟩ (.int .i64 n)).setCell ⟨w.heap.size, 2, none⟩ acc) :=
    (((h1.mono (fun k _ e => .inr e)).setCell (.inl (.inl rfl)) _).setCell (.inl (.inl rfl)) _).setCell (.inl (.inl rfl)) _
  refine ⟨?_, ?_, ?_⟩
  · have := ((b1.set 0 (.int .i64 K)).set 1 (.int .i64 n)).set 2 acc
    simpa using this
  · refine (ints_of_own (by omega) hS.own).chg h2 fun a n c _ e => ?_
    have := ints_of_own' hS.own a n c e
    omega
  · exact hS.m.trans' h2 (fun i hi e => by omega)
theorem told_ok' (w : World) (l : List Int) (B : Option Base) (v : Value) (K n : Int) (zs : List Int) (hv : ErrAt w l B v) (hlen : l.length ≤ 4000) (hd : DescO l B K n zs) (hn : F64 n) :
    Calls Tryd.prog 27 #[v] w fun e w' => ∃ r, e = .returned (.agg #[.int .i64 K, .int .i64 n, r]) ∧ Ints w' r zs ∧ Same w w' := by
  obtain ⟨i0, hi, hz0, hz1, hz2⟩ := info_parts (P := Tryd.prog) (e := 3) (z := .int .i64 0) (size := 1) (bytes := 8) (by kernel_rfl)
  have hd' := Lib.hid hd
  clear hd
  go_enter Tryd.func27, Tryd.ntmps27
  go_wp2_with fail
  go_loopw [0, 4] (fun x i wr => ∃ (d r : List Int) (acc : Value), l = d ++ r ∧ ErrAt w r B x ∧ i = .int .i64 d.length ∧ ToldS w wr d acc ∧ (r = [] → B = none → d = [])) (fun _ i _ => 4096 - (intOf i).toNat)
  case atStart =>
    refine ⟨[], l, .slice none 0 0, rfl, hv, rfl, ⟨(Blk.new _ _ _).alloc _, Blk.neww (by simp) _ _, World.ownsRow_nil _ _ _ _, ((Chg.refl _ _).alloc _).alloc _⟩, fun _ _ => rfl⟩
  case round =>
  obtain ⟨d, r, acc, hl, he0, rfl, hS, hdd⟩ := hrel
  rename World => wr
  have he := he0.same hS.m
  obtain ⟨pa, ca, rfl⟩ : ∃ pa ca, acc = .slice pa d.length ca := by
    obtain ⟨_, ⟨rfl, h0⟩ | ⟨g, cap, cur, rfl, _⟩⟩ := hS.own
    · exact ⟨none, 0, by rw [h0]⟩
    · exact ⟨_, _, rfl⟩
  have hsz := hS.m.size
  have bR := hS.res
  have bD := hS.dd
  have r0 := bR.cellAt 0 (v := .int .i64 0) rfl
  have r1 := bR.cellAt 1 (v := .int .i64 0) rfl
  have r2 := bR.cellAt 2 (v := .slice none 0 0) rfl
  have q0 := bD.cellAt 0 (v := .int .i64 0) rfl
  have q1 := bD.cellAt 1 (v := .int .i64 0) rfl
  have q2 := bD.cellAt 2 (v := .slice pa d.length ca) rfl
  have zd := bD.free
  have zr := bR.free
  have hdl : d.length ≤ 4000 := by rw [hl] at hlen; simp at hlen; omega
  cases r with
  | nil =>
    cases B with
    | none =>
      obtain rfl := he
      obtain rfl := hdd rfl rfl
      obtain ⟨_, rfl, rfl, rfl⟩ | ⟨_, h⟩ := hd'.out
      · clear hd' q0 q1 q2 zd hl hdd hdl hlen hn hv
        have m2 : Chg (fun k => k = w.heap.size ∨ k = w.heap.size + 1) wr (((wr.setCell ⟨w.heap.size, 0, none⟩ (.int .i64 0)).setCell ⟨w.heap.size, 1, none⟩ (.int .i64 0)).setCell ⟨w.heap.size, 2, none⟩ (.slice none 0 0)) :=
          (((Chg.refl _ _).setCell (.inl (.inl rfl)) _).setCell (.inl (.inl rfl)) _).setCell (.inl (.inl rfl)) _
        have m3 := hS.m.trans' m2 (fun i hi e => by omega)
        have b3 : Blk (((wr.setCell ⟨w.heap.size, 0, none⟩ (.int .i64 0)).setCell ⟨w.heap.size, 1, none⟩ (.int .i64 0)).setCell ⟨w.heap.size, 2, none⟩ (.slice none 0 0)) w.heap.size #[.int .i64 0, .int .i64 0, .slice none 0 0] 43 := by
          have := ((bR.set 0 (.int .i64 0)).set 1 (.int .i64 0)).set 2 (.slice none 0 0)
          simpa using this
        clear bR bD hS m2
        go_wp2_with fail
        refine bodyPost_ret (results_cell_row rfl _ _ w.heap.size _ #[.int .i64 0, .int .i64 0, .slice none 0 0] (0, 0) _ rfl b3 Tryd.underlying43 rfl (by kernel_rfl)) rfl ?_
        exact ⟨_, rfl, ⟨by simp, .inl ⟨none, 0, rfl, rfl⟩⟩, m3⟩
      · exfalso; subst hl; simp at h
    | some B =>
      obtain ⟨hB, rfl⟩ := hd'.out
      obtain rfl : zs = d := by simpa using hl
      have hB' := Lib.hid hB
      have g4 : (zs.length : Int) < 4096 := by omega
      clear hB hd' hl hdd hlen
      cases B with
      | failed k =>
        obtain ⟨c, rfl, hc⟩ := he
        obtain ⟨rfl, rfl⟩ := hB'.out
        have ta0 := ta_Failed_At (.pointer (some ⟨c, 0, none⟩))
        have ta1 := ta_Failed_Failed (.pointer (some ⟨c, 0, none⟩))
        have ta2 := ta_Failed_Cancelled (.pointer (some ⟨c, 0, none⟩))
        have ta3 := ta_Failed_Late (.pointer (some ⟨c, 0, none⟩))
        have cc := hc.cellAt 0 (v := .int .i64 n) rfl
        have n1 : ¬ c = w.heap.size + 1 := hc.ne bD (by decide)
        have n2 : ¬ c = w.heap.size := hc.ne bR (by decide)
        have hE := Lib.hid (told_end hS hdl 1 n (W1 := (wr.setCell ⟨w.heap.size + 1, 0, none⟩ (.int .i64 1)).setCell ⟨w.heap.size + 1, 1, none⟩ (.int .i64 n)) (chg_two _ _ _ _))
        clear hc bR bD hS hB' hi hz0 hz1 hz2
        go_wp2_with fail
        refine bodyPost_ret (results_cell_row rfl _ _ w.heap.size _ #[.int .i64 1, .int .i64 n, .slice pa zs.length ca] (0, 0) _ rfl hE.out.1 Tryd.underlying43 rfl (by kernel_rfl)) rfl ?_
        exact ⟨_, rfl, hE.out.2.1, hE.out.2.2⟩
      | cancelled k =>
        obtain ⟨c, rfl, hc⟩ := he
        obtain ⟨rfl, rfl⟩ := hB'.out
        have ta0 := ta_Cancelled_At (.pointer (some ⟨c, 0, none⟩))
        have ta1 := ta_Cancelled_Failed (.pointer (some ⟨c, 0, none⟩))
        have ta2 := ta_Cancelled_Cancelled (.pointer (some ⟨c, 0, none⟩))
        have ta3 := ta_Cancelled_Late (.pointer (some ⟨c, 0, none⟩))
        have cc := hc.cellAt 0 (v := .int .i64 n) rfl
        have n1 : ¬ c = w.heap.size + 1 := hc.ne bD (by decide)
        have n2 : ¬ c = w.heap.size := hc.ne bR (by decide)
        have hE := Lib.hid (told_end hS hdl 2 n (W1 := (wr.setCell ⟨w.heap.size + 1, 0, none⟩ (.int .i64 2)).setCell ⟨w.heap.size + 1, 1, none⟩ (.int .i64 n)) (chg_two _ _ _ _))
        clear hc bR bD hS hB' hi hz0 hz1 hz2
        go_wp2_with fail
        refine bodyPost_ret (results_cell_row rfl _ _ w.heap.size _ #[.int .i64 2, .int .i64 n, .slice pa zs.length ca] (0, 0) _ rfl hE.out.1 Tryd.underlying43 rfl (by kernel_rfl)) rfl ?_
        exact ⟨_, rfl, hE.out.2.1, hE.out.2.2⟩
      | late k =>
        obtain ⟨c, rfl, hc⟩ := he
        obtain ⟨rfl, rfl⟩ := hB'.out
        have ta0 := ta_Late_At (.pointer (some ⟨c, 0, none⟩))
        have ta1 := ta_Late_Failed (.pointer (some ⟨c, 0, none⟩))
        have ta2 := ta_Late_Cancelled (.pointer (some ⟨c, 0, none⟩))
        have ta3 := ta_Late_Late (.pointer (some ⟨c, 0, none⟩))
        have cc := hc.cellAt 0 (v := .int .i64 n) rfl
        have n1 : ¬ c = w.heap.size + 1 := hc.ne bD (by decide)
        have n2 : ¬ c = w.heap.size := hc.ne bR (by decide)
        have hE := Lib.hid (told_end hS hdl 3 n (W1 := (wr.setCell ⟨w.heap.size + 1, 0, none⟩ (.int .i64 3)).setCell ⟨w.heap.size + 1, 1, none⟩ (.int .i64 n)) (chg_two _ _ _ _))
        clear hc bR bD hS hB' hi hz0 hz1 hz2
        go_wp2_with fail
        refine bodyPost_ret (results_cell_row rfl _ _ w.heap.size _ #[.int .i64 3, .int .i64 n, .slice pa zs.length ca] (0, 0) _ rfl hE.out.1 Tryd.underlying43 rfl (by kernel_rfl)) rfl ?_
        exact ⟨_, rfl, hE.out.2.1, hE.out.2.2⟩
      | panicked x =>
        obtain ⟨c, rfl, hc⟩ := he
        obtain ⟨rfl, bb, hpn⟩ := hB'.out
        have ta0 := ta_Panicked_At (.pointer (some ⟨c, 0, none⟩))
        have ta1 := ta_Panicked_Failed (.pointer (some ⟨c, 0, none⟩))
        have ta2 := ta_Panicked_Cancelled (.pointer (some ⟨c, 0, none⟩))
        have ta3 := ta_Panicked_Late (.pointer (some ⟨c, 0, none⟩))
        have ta4 := ta_Panicked_Panicked (.pointer (some ⟨c, 0, none⟩))
        have cc := hc.cellAt 0 (v := x) rfl
        have n1 : ¬ c = w.heap.size + 1 := hc.ne bD (by decide)
        have n2 : ¬ c = w.heap.size := hc.ne bR (by decide)
        have hE := Lib.hid (told_end hS hdl 4 n (W1 := (wr.setCell ⟨w.heap.size + 1, 0, none⟩ (.int .i64 4)).setCell ⟨w.heap.size + 1, 1, none⟩ (.int .i64 n)) (chg_two _ _ _ _))
        clear hc bR bD hS hB' hi hz0 hz1 hz2
        go_wp2_with fail
        refine bodyPost_ret (results_cell_row rfl _ _ w.heap.size _ #[.int .i64 4, .int .i64 n, .slice pa zs.length ca] (0, 0) _ rfl hE.out.1 Tryd.underlying43 rfl (by kernel_rfl)) rfl ?_
        exact ⟨_, rfl, hE.out.2.1, hE.out.2.2⟩
      | errno k =>
        obtain rfl := he
        obtain ⟨rfl, rfl⟩ := hB'.out
        have ta0 := ta_Errno_At (.int .i64 n)
        have ta1 := ta_Errno_Failed (.int .i64 n)
        have ta2 := ta_Errno_Cancelled (.int .i64 n)
        have ta3 := ta_Errno_Late (.int .i64 n)
        have ta4 := ta_Errno_Panicked (.int .i64 n)
        have ta5 := ta_Errno_Errno (.int .i64 n)
        have hE := Lib.hid (told_end hS hdl 7 n (W1 := (wr.setCell ⟨w.heap.size + 1, 0, none⟩ (.int .i64 7)).setCell ⟨w.heap.size + 1, 1, none⟩ (.int .i64 n)) (chg_two _ _ _ _))
        clear bR bD hS hB' hi hz0 hz1 hz2
        go_wp2_with fail
        refine bodyPost_ret (results_cell_row rfl _ _ w.heap.size _ #[.int .i64 7, .int .i64 n, .slice pa zs.length ca] (0, 0) _ rfl hE.out.1 Tryd.underlying43 rfl (by kernel_rfl)) rfl ?_
        exact ⟨_, rfl, hE.out.2.1, hE.out.2.2⟩
      | plain a =>
        obtain rfl := he
        obtain ⟨rfl, rfl⟩ := hB'.out
        have ta0 := ta_Plain_At (.pointer (some a))
        have ta1 := ta_Plain_Failed (.pointer (some a))
        have ta2 := ta_Plain_Cancelled (.pointer (some a))
        have ta3 := ta_Plain_Late (.pointer (some a))
        have ta4 := ta_Plain_Panicked (.pointer (some a))
        have ta5 := ta_Plain_Errno (.pointer (some a))
        have hE := Lib.hid (told_end hS hdl 5 0 (W1 := wr.setCell ⟨w.heap.size + 1, 0, none⟩ (.int .i64 5)) (chg_one _ _ _))
        clear bR bD hS hB' hi hz0 hz1 hz2
        go_wp2_with fail
        refine bodyPost_ret (results_cell_row rfl _ _ w.heap.size _ #[.int .i64 5, .int .i64 0, .slice pa zs.length ca] (0, 0) _ rfl hE.out.1 Tryd.underlying43 rfl (by kernel_rfl)) rfl ?_
        exact ⟨_, rfl, hE.out.2.1, hE.out.2.2⟩
  | cons m r =>
    clear he
    obtain ⟨b, u, rfl, hb0, hu0⟩ := he0
    have hb := hS.m.blk hb0 (fun x => x)
    have hu := hu0.same hS.m
    have n1 : ¬ b = w.heap.size + 1 := hb.ne bD (by decide)
    have n2 : ¬ b = w.heap.size := hb.ne bR (by decide)
    have e0 := hb.cellAt 0 (v := .int .i64 m) rfl
    have e1 := hb.cellAt 1 (v := u) rfl
    have hbl := hb.lt
    have ta0 := ta_At_At (.pointer (some ⟨b, 0, none⟩))
    have g4 : (d.length : Int) < 4096 := by omega
    rcases ErrAt.shape hu with ⟨rfl, rfl, rfl⟩ | ⟨E, y, rfl⟩
    · obtain ⟨h, _⟩ | ⟨rfl, h⟩ := hd'.out
      · subst h; simp at hl
      · have hzd : zs ++ [n] = d ++ [m] := h.symm.trans hl
        have hzl : zs.length = d.length := by have := congrArg List.length hzd; simpa using this
        obtain ⟨h1, h2⟩ := List.append_inj hzd hzl
        simp at h2
        subst h1 h2
        have hE := Lib.hid (told_end hS hdl 6 n (W1 := (wr.setCell ⟨w.heap.size + 1, 0, none⟩ (.int .i64 6)).setCell ⟨w.heap.size + 1, 1, none⟩ (.int .i64 n)) (chg_two _ _ _ _))
        clear hb bR bD hS hd' hi hz0 hz1 hz2 hl hlen hzd hzl hu hdd h
        go_wp2_with fail
        refine bodyPost_ret (results_cell_row rfl _ _ w.heap.size _ #[.int .i64 6, .int .i64 n, .slice pa zs.length ca] (0, 0) _ rfl hE.out.1 Tryd.underlying43 rfl (by kernel_rfl)) rfl ?_
        exact ⟨_, rfl, hE.out.2.1, hE.out.2.2⟩
    · have hown := hS.own
      have hoo := ints_of_own' hown
      have hown' := hown.lt
      have hob : ∀ j, (Value.slice pa d.length ca).ownBlock = some j → j ≠ b := by
        intro j hj e
        subst e
        obtain ⟨_, ⟨h, _⟩ | ⟨g, cap, cur, h, _, hg, _⟩⟩ := hown
        · rw [h] at hj; simp [Value.ownBlock] at hj
        · rw [h] at hj
          simp [Value.ownBlock] at hj
          subst hj
          exact Blk.ne (T := 3) hg hb (by decide) rfl
      have hne : (Value.slice pa d.length ca).ownBlock ≠ some (w.heap.size + 1) := fun e => by have := (hown' _ e).1; omega
      have hne0 : (Value.slice pa d.length ca).ownBlock ≠ some w.heap.size := fun e => by have := (hown' _ e).1; omega
      have hneb : (Value.slice pa d.length ca).ownBlock ≠ some b := fun e => hob b e rfl
      have hm := hS.m
      have hbd := bD.lt
      have zd2 := zd 2
      have y1 := ((bD.alloc (.cells #[.int .i64 m] 3)).drew).cellAt 2 (v := .slice pa d.length ca) rfl
      have y2 := ((hb.alloc (.cells #[.int .i64 m] 3)).drew).cellAt 0 (v := .int .i64 m) rfl
      have y3 := ((bD.alloc (.cells #[.int .i64 m] 3)).drew).free 2
      clear hoo hob hS hd' hu hb0
      have hu0' := Lib.hid hu0
      have hl' := Lib.hid hl
      clear hu0 hl hdd
      go_wp2_with fail
      go_region_law
        ((refine step_append_lies _ (by rfl) _ _ _ (by rfl) (w.heap.size + 2) 3 i0 _ 1 8 Tryd.underlying41 hi hz0 hz1 hz2 rfl (by omega) (.slice pa d.length ca) d.length (d.map (Value.int .i64)) (by rfl) ((hown.alloc _).drew)
            ⟨wr.heap.size, 0, none⟩ 1 1 [.int .i64 m] (by rfl) (by rfl) (World.news_of_block (cs := #[.int .i64 m]) (t := 3) (fr := (0, 0)) (heap_alloc_new wr _)) (by simp [Value.oneCell'])
            (by omega) (by simp [maxLen]; omega) (by omega) (by simp; omega) (wr.heap.size + 1) (by simp) ?_; intro gg cap w3 hown1 hgrow hat hlt; have x1 := (hgrow.cell_far ⟨w.heap.size + 1, 2, none⟩ (by simp; omega) (Ne.symm hne)).trans y1; have x2 := (hgrow.frozen_far ⟨w.heap.size + 1, 2, none⟩ (by simp; omega) (Ne.symm hne)).trans y3; have x3 := (hgrow.cell_far ⟨b, 1, none⟩ (by simp; omega) (Ne.symm hneb)).trans (((hb.alloc (.cells #[.int .i64 m] 3)).drew).cellAt 1 (v := .iface E y) rfl)))
      all_goals
        have G : Chg (fun k => (Value.slice pa d.length ca).ownBlock = some k) (wr.alloc (.cells #[.int .i64 m] 3)).drew w3 := ⟨hgrow.os, hgrow.tape, hgrow.output, hgrow.size, fun k hk hn => hgrow.block k hk (fun e => hn e.symm)⟩
        have bR3 := G.blk ((bR.alloc (.cells #[.int .i64 m] 3)).drew) hne0
        have bD3 := G.blk ((bD.alloc (.cells #[.int .i64 m] 3)).drew) hne
        have g4 : Chg (fun k => k = w.heap.size + 1) w3 (w3.setCell ⟨w.heap.size + 1, 2, none⟩ (.slice (some ⟨gg, 0, none⟩) (d.length + 1) cap)) := Chg.setCell (S := fun k => k = w.heap.size + 1) (p := ⟨w.heap.size + 1, 2, none⟩) (Chg.refl _ _) (.inl rfl) _
        have bD4 := bD3.set 2 (.slice (some ⟨gg, 0, none⟩) (d.length + 1) cap)
        have bR4 := g4.blk bR3 (by omega)
        have hgg := (hown1.lt gg rfl).1
        have o4 : (w3.setCell ⟨w.heap.size + 1, 2, none⟩ (.slice (some ⟨gg, 0, none⟩) (d.length + 1) cap)).ownsRow (w.heap.size + 2) 3 1 (.slice (some ⟨gg, 0, none⟩) (d.length + 1) cap) (d.length + 1) (d.map (Value.int .i64) ++ [.int .i64 m]) :=
          hown1.kept (row := some (w.heap.size + 1)) ⟨g4.os, g4.tape, g4.output, g4.size, fun k hk hk2 => g4.old k hk (fun e => hk2 (by rw [e]))⟩ (.inr (fun e => by simp [Value.ownBlock] at e; omega))
        have m4 : Same w (w3.setCell ⟨w.heap.size + 1, 2, none⟩ (.slice (some ⟨gg, 0, none⟩) (d.length + 1) cap)) := ((hm.alloc (.cells #[.int .i64 m] 3)).drew.trans' G (fun i hi e => by have := (hown' i e).1; omega)).trans' g4 (fun i hi e => by omega)
        clear y1 y2 y3 x1 x2 bR bD bR3 bD3 G hgrow hown1 hown hb
        go_wp2_with fail
        go_roundw
        case rel =>
          refine ⟨d ++ [m], r, _, by rw [hl'.out]; simp, hu0'.out, by simp, ⟨bR4, by simpa using bD4, ?_, m4⟩, fun h1 h2 => ?_⟩
          · simpa using o4
          · subst h1 h2
            have := hu0'.out
            cases this
        case measure => simp [intOf]; omega
end Go.Proofs.YtgdjbfcdkibdbaaDoor
