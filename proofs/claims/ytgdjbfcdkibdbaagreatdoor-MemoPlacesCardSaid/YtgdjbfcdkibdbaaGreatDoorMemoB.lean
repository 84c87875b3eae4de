/- memo's find: at a free place, at the key's own, at none. Conditions: math/bits.deBruijn64tab holds what the program lays. -/
import Derived.Test.YtgdjbfcdkibdbaaGreatDoorMemoA
import Derived.LoopTactic
namespace Go.Proofs.YtgdjbfcdkibdbaaGreatDoor
open Go Go.RowKit
set_option maxRecDepth 100000
set_option maxHeartbeats 2000000
theorem Tab.same {w w' : World} (h : Tab w) (hs : Same w w') : Tab w' := by
  unfold Tab Lib.TabIs World.var? at *
  simp only [tabg, Option.bind_some] at h ⊢
  have hlt : 3 < w.heap.size := by
    rcases Nat.lt_or_ge 3 w.heap.size with g | g
    · exact g
    · rw [Array.getElem?_eq_none g] at h; simp at h
  rw [hs.old _ hlt (fun x => x)]
  exact h
structure MemoB (w : World) (m pb n : Nat) (cs : Array Value) : Prop where
  blk : Blk w m #[.slice (some ⟨pb, 0, none⟩) n n] 28
  pl : Blk w pb cs 132
  size : cs.size = 2 * n
theorem MemoB.chg {S : Nat → Prop} {w w' : World} {m pb n : Nat} {cs : Array Value} (h : MemoB w m pb n cs) (hs : Chg S w w') (h1 : ¬ S m) (h2 : ¬ S pb) : MemoB w' m pb n cs := ⟨hs.blk h.blk h1, hs.blk h.pl h2, h.size⟩
theorem memo_made {w : World} {m pb n : Nat} {cs : Array Value} (h : MemoB w m pb n cs) (hn : 0 < n) : Calls Tryz.prog 65 #[.pointer (some ⟨m, 0, none⟩)] w fun e w' => e = .returned (.bool true) ∧ w = w' := by
  have c0 := h.blk.cellAt 0 (v := .slice (some ⟨pb, 0, none⟩) n n) rfl
  clear h
  go_enter Tryz.func65, Tryz.ntmps65
  go_wp2
  go_ret
  exact ⟨rfl, rfl⟩
theorem memo_made_none (w : World) : Calls Tryz.prog 65 #[.pointer none] w fun e w' => e = .returned (.bool false) ∧ w = w' := by
  go_enter Tryz.func65, Tryz.ntmps65
  go_wp2
  go_ret
  exact ⟨rfl, rfl⟩
theorem memo_made_bare {w : World} {m : Nat} (h : Blk w m #[.slice none 0 0] 28) : Calls Tryz.prog 65 #[.pointer (some ⟨m, 0, none⟩)] w fun e w' => e = .returned (.bool false) ∧ w = w' := by
  have c0 := h.cellAt 0 (v := .slice none 0 0) rfl
  clear h
  go_enter Tryz.func65, Tryz.ntmps65
  go_wp2
  go_ret
  exact ⟨rfl, rfl⟩
theorem find_new (k : Nat) (hk : k ≤ 12) (n : Nat) (hn : pw k = n) {w : World} {m pb : Nat} {cs : Array Value} (h : MemoB w m pb n cs) (ht : Tab w) (key : Int) (h0 : 0 ≤ key) (h1 : key < 9223372036854775807) (i : Nat) (hi : placeOf k key = i) (hin : i < n)
    (c b : Nat) (k0 : cs[2 * i]? = some (.pointer (some ⟨c, 0, none⟩))) (k1 : cs[2 * i + 1]? = some (.pointer (some ⟨b, 0, none⟩))) (hc : CellAt w c 0) :
    Calls Tryz.prog 66 #[.pointer (some ⟨m, 0, none⟩), .pointer none, .int .i64 key] w fun e w' => e = .returned (.tuple #[.agg #[.pointer (some ⟨c, 0, none⟩), .pointer (some ⟨b, 0, none⟩)], .bool true]) ∧ CellAt w' c (key + 1) ∧ Chg (· = c) w w' := by
  have hr := pw_range k (by omega)
  have hp := fun w' (h' : Tab w') => place_pow key h0 (by omega) k hk w' h'
  rw [hi, hn] at hp
  rw [hn] at hr
  rw [Nat.mul_comm] at k0 k1
  have s1 : Same w (w.alloc (.cells #[.pointer none, .pointer none] 132)) := (Chg.refl _ _).alloc _
  have ht1 := ht.same s1
  have c0 := (s1.blk h.blk (fun x => x)).cellAt 0 (v := .slice (some ⟨pb, 0, none⟩) n n) rfl
  have p1 := s1.blk h.pl (fun x => x)
  have e0 := p1.cellAt (i * 2) k0
  have e1 := p1.cellAt (i * 2 + 1) k1
  have hm : (i : Int).tmod n = i := by
    rw [Int.tmod_eq_emod_of_nonneg (by omega)]
    exact Int.emod_eq_of_lt (by omega) (by omega)
  have hw1 : IntKind.i64.wrap ((i : Int) + 0) = i := by rw [IntKind.wrap_i64]; omega
  have hw2 : IntKind.i64.wrap (i : Int) = i := by rw [IntKind.wrap_i64]; omega
  have hn0 : ¬ (n : Int) = 0 := by omega
  have hn1 : ¬ n = 0 := by omega
  have hi0 : (0 : Int) ≤ i := by omega
  have hi1 : (i : Int) < n := by omega
  have hcl := hc.lt
  clear hi hn k0 k1
  go_enter Tryz.func66, Tryz.ntmps66
  go_wp2_with fail
  refine (hp _ ht1).mono ?_
  rintro e w' ⟨rfl, rfl⟩
  clear hp
  go_wp2_with fail
  refine wp_loop_rounds 1 ?_; rw [rounds_succ]
  go_wp2_with fail
  go_region_held3 (fun w' => w'.cell? ⟨m, 0, none⟩ = some (.slice (some ⟨pb, 0, none⟩) n n) ∧ w'.cell? ⟨pb, i * 2, none⟩ = some (.pointer (some ⟨c, 0, none⟩)) ∧ w'.cell? ⟨pb, i * 2 + 1, none⟩ = some (.pointer (some ⟨b, 0, none⟩))) (go_keep) (fail)
  go_wp2_with fail
  refine wp_loop_rounds 1 ?_; rw [rounds_succ]
  go_wp2_with fail
  have hcW : CellAt ((w.alloc (.cells #[.pointer none, .pointer none] 132)).alloc (.cells #[.pointer (some ⟨c, 0, none⟩), .pointer (some ⟨b, 0, none⟩)] 132)).drew c 0 := ((hc.al _).al _).dr
  have kR : Blk ((w.alloc (.cells #[.pointer none, .pointer none] 132)).alloc (.cells #[.pointer (some ⟨c, 0, none⟩), .pointer (some ⟨b, 0, none⟩)] 132)).drew w.heap.size #[.pointer none, .pointer none] 132 := ((Blk.new _ _ _).alloc _).drew
  have kT : Blk ((w.alloc (.cells #[.pointer none, .pointer none] 132)).alloc (.cells #[.pointer (some ⟨c, 0, none⟩), .pointer (some ⟨b, 0, none⟩)] 132)).drew (w.heap.size + 1) #[.pointer (some ⟨c, 0, none⟩), .pointer (some ⟨b, 0, none⟩)] 132 := (Blk.neww (by simp) _ _).drew
  have sW : Same w ((w.alloc (.cells #[.pointer none, .pointer none] 132)).alloc (.cells #[.pointer (some ⟨c, 0, none⟩), .pointer (some ⟨b, 0, none⟩)] 132)).drew := (((Chg.refl _ _).alloc _).alloc _).drew
  generalize ((w.alloc (.cells #[.pointer none, .pointer none] 132)).alloc (.cells #[.pointer (some ⟨c, 0, none⟩), .pointer (some ⟨b, 0, none⟩)] 132)).drew = w1 at *
  clear c0 e0 e1 p1 hm hw1 hw2 ht1 s1 h hn0 hn1
  have t0 := kT.cellAt 0 (v := .pointer (some ⟨c, 0, none⟩)) rfl
  refine (cell_load_at w1 c 0 hcW).mono ?_
  rintro e w' ⟨rfl, rfl⟩
  go_wp2_with fail
  refine (cas_ok w1 c 0 (key + 1) hcW).mono ?_
  rintro e w2 ⟨rfl, g1, g2⟩
  have kR2 := g2.blk kR (by omega)
  have kT2 := g2.blk kT (by omega)
  have t0 := kT2.cellAt 0 (v := .pointer (some ⟨c, 0, none⟩)) rfl
  have t1 := kT2.cellAt 1 (v := .pointer (some ⟨b, 0, none⟩)) rfl
  have r0 := kR2.cellAt 0 (v := .pointer none) rfl
  have r1 := kR2.cellAt 1 (v := .pointer none) rfl
  have f0 := kR2.free 0
  have f1 := kR2.free 1
  have k1 := (kR2.set 0 (.pointer (some ⟨c, 0, none⟩))).set 1 (.pointer (some ⟨b, 0, none⟩))
  have u0 := k1.cellAt 0 (v := .pointer (some ⟨c, 0, none⟩)) rfl
  have u1 := k1.cellAt 1 (v := .pointer (some ⟨b, 0, none⟩)) rfl
  have hch : Chg (fun k => k = w.heap.size) w2 ((w2.setCell ⟨w.heap.size, 0, none⟩ (.pointer (some ⟨c, 0, none⟩))).setCell ⟨w.heap.size, 1, none⟩ (.pointer (some ⟨b, 0, none⟩))) := Chg.setCell (S := fun j => j = w.heap.size) (p := ⟨w.heap.size, 1, none⟩) (Chg.setCell (S := fun j => j = w.heap.size) (p := ⟨w.heap.size, 0, none⟩) (Chg.refl _ _) (.inl rfl) _) (.inl rfl) _
  have hg1 := g1.chg hch (by omega)
  have hfin : Chg (· = c) w ((w2.setCell ⟨w.heap.size, 0, none⟩ (.pointer (some ⟨c, 0, none⟩))).setCell ⟨w.heap.size, 1, none⟩ (.pointer (some ⟨b, 0, none⟩))) := ((sW.mono (fun _ _ e => absurd e (fun x => x))).trans g2).trans' hch (fun i hi e => by omega)
  clear kR kT hcW g1 g2 kT2 kR2
  go_wp2_with fail
  refine bodyPost_ret (v := .tuple #[.agg #[.pointer (some ⟨c, 0, none⟩), .pointer (some ⟨b, 0, none⟩)], .bool true]) (by simp [results, Tryz.results66, go_sem, u0, u1]) rfl ⟨rfl, hg1, hfin⟩
theorem find_old (k : Nat) (hk : k ≤ 12) (n : Nat) (hn : pw k = n) {w : World} {m pb : Nat} {cs : Array Value} (h : MemoB w m pb n cs) (ht : Tab w) (key : Int) (h0 : 0 ≤ key) (h1 : key < 9223372036854775807) (i : Nat) (hi : placeOf k key = i) (hin : i < n)
    (c b : Nat) (k0 : cs[2 * i]? = some (.pointer (some ⟨c, 0, none⟩))) (k1 : cs[2 * i + 1]? = some (.pointer (some ⟨b, 0, none⟩))) (hc : CellAt w c (key + 1)) :
    Calls Tryz.prog 66 #[.pointer (some ⟨m, 0, none⟩), .pointer none, .int .i64 key] w fun e w' => e = .returned (.tuple #[.agg #[.pointer (some ⟨c, 0, none⟩), .pointer (some ⟨b, 0, none⟩)], .bool true]) ∧ Same w w' := by
  have hr := pw_range k (by omega)
  have hp := fun w' (h' : Tab w') => place_pow key h0 (by omega) k hk w' h'
  rw [hi, hn] at hp
  rw [hn] at hr
  rw [Nat.mul_comm] at k0 k1
  have s1 : Same w (w.alloc (.cells #[.pointer none, .pointer none] 132)) := (Chg.refl _ _).alloc _
  have ht1 := ht.same s1
  have c0 := (s1.blk h.blk (fun x => x)).cellAt 0 (v := .slice (some ⟨pb, 0, none⟩) n n) rfl
  have p1 := s1.blk h.pl (fun x => x)
  have e0 := p1.cellAt (i * 2) k0
  have e1 := p1.cellAt (i * 2 + 1) k1
  have hm : (i : Int).tmod n = i := by
    rw [Int.tmod_eq_emod_of_nonneg (by omega)]
    exact Int.emod_eq_of_lt (by omega) (by omega)
  have hw1 : IntKind.i64.wrap ((i : Int) + 0) = i := by rw [IntKind.wrap_i64]; omega
  have hw2 : IntKind.i64.wrap (i : Int) = i := by rw [IntKind.wrap_i64]; omega
  have hn0 : ¬ (n : Int) = 0 := by omega
  have hn1 : ¬ n = 0 := by omega
  have hi0 : (0 : Int) ≤ i := by omega
  have hi1 : (i : Int) < n := by omega
  have hcl := hc.lt
  clear hi hn k0 k1
  go_enter Tryz.func66, Tryz.ntmps66
  go_wp2_with fail
  refine (hp _ ht1).mono ?_
  rintro e w' ⟨rfl, rfl⟩
  clear hp
  go_wp2_with fail
  refine wp_loop_rounds 1 ?_; rw [rounds_succ]
  go_wp2_with fail
  go_region_held3 (fun w' => w'.cell? ⟨m, 0, none⟩ = some (.slice (some ⟨pb, 0, none⟩) n n) ∧ w'.cell? ⟨pb, i * 2, none⟩ = some (.pointer (some ⟨c, 0, none⟩)) ∧ w'.cell? ⟨pb, i * 2 + 1, none⟩ = some (.pointer (some ⟨b, 0, none⟩))) (go_keep) (fail)
  go_wp2_with fail
  refine wp_loop_rounds 1 ?_; rw [rounds_succ]
  go_wp2_with fail
  have hcW : CellAt ((w.alloc (.cells #[.pointer none, .pointer none] 132)).alloc (.cells #[.pointer (some ⟨c, 0, none⟩), .pointer (some ⟨b, 0, none⟩)] 132)).drew c (key + 1) := ((hc.al _).al _).dr
  have kR2 : Blk ((w.alloc (.cells #[.pointer none, .pointer none] 132)).alloc (.cells #[.pointer (some ⟨c, 0, none⟩), .pointer (some ⟨b, 0, none⟩)] 132)).drew w.heap.size #[.pointer none, .pointer none] 132 := ((Blk.new _ _ _).alloc _).drew
  have kT2 : Blk ((w.alloc (.cells #[.pointer none, .pointer none] 132)).alloc (.cells #[.pointer (some ⟨c, 0, none⟩), .pointer (some ⟨b, 0, none⟩)] 132)).drew (w.heap.size + 1) #[.pointer (some ⟨c, 0, none⟩), .pointer (some ⟨b, 0, none⟩)] 132 := (Blk.neww (by simp) _ _).drew
  have sW : Same w ((w.alloc (.cells #[.pointer none, .pointer none] 132)).alloc (.cells #[.pointer (some ⟨c, 0, none⟩), .pointer (some ⟨b, 0, none⟩)] 132)).drew := (((Chg.refl _ _).alloc _).alloc _).drew
  generalize ((w.alloc (.cells #[.pointer none, .pointer none] 132)).alloc (.cells #[.pointer (some ⟨c, 0, none⟩), .pointer (some ⟨b, 0, none⟩)] 132)).drew = w2 at *
  clear c0 e0 e1 p1 hm hw1 hw2 ht1 s1 h hn0 hn1
  have t0 := kT2.cellAt 0 (v := .pointer (some ⟨c, 0, none⟩)) rfl
  have t1 := kT2.cellAt 1 (v := .pointer (some ⟨b, 0, none⟩)) rfl
  have r0 := kR2.cellAt 0 (v := .pointer none) rfl
  have r1 := kR2.cellAt 1 (v := .pointer none) rfl
  have f0 := kR2.free 0
  have f1 := kR2.free 1
  have k1 := (kR2.set 0 (.pointer (some ⟨c, 0, none⟩))).set 1 (.pointer (some ⟨b, 0, none⟩))
  have u0 := k1.cellAt 0 (v := .pointer (some ⟨c, 0, none⟩)) rfl
  have u1 := k1.cellAt 1 (v := .pointer (some ⟨b, 0, none⟩)) rfl
  have hch : Chg (fun k => k = w.heap.size) w2 ((w2.setCell ⟨w.heap.size, 0, none⟩ (.pointer (some ⟨c, 0, none⟩))).setCell ⟨w.heap.size, 1, none⟩ (.pointer (some ⟨b, 0, none⟩))) := Chg.setCell (S := fun j => j = w.heap.size) (p := ⟨w.heap.size, 1, none⟩) (Chg.setCell (S := fun j => j = w.heap.size) (p := ⟨w.heap.size, 0, none⟩) (Chg.refl _ _) (.inl rfl) _) (.inl rfl) _
  have hfin : Same w ((w2.setCell ⟨w.heap.size, 0, none⟩ (.pointer (some ⟨c, 0, none⟩))).setCell ⟨w.heap.size, 1, none⟩ (.pointer (some ⟨b, 0, none⟩))) := sW.trans' hch (fun i hi e => by omega)
  have hk1 : 0 < key + 1 := by omega
  clear sW hch kT2 kR2
  refine (cell_load_at w2 c (key + 1) hcW).mono ?_
  rintro e w' ⟨rfl, rfl⟩
  clear hcW
  have hkk : ¬ key + 1 = 0 := by omega
  go_wp2_with fail
  refine bodyPost_ret (v := .tuple #[.agg #[.pointer (some ⟨c, 0, none⟩), .pointer (some ⟨b, 0, none⟩)], .bool true]) (by simp [results, Tryz.results66, go_sem, u0, u1]) rfl ⟨rfl, hfin⟩
theorem find_3 {w : World} {m pb : Nat} {cs : Array Value} (h : MemoB w m pb 2 cs) (ht : Tab w) (c0 b0 c1 b1 : Nat) (g0 : cs[0]? = some (.pointer (some ⟨c0, 0, none⟩))) (g1 : cs[1]? = some (.pointer (some ⟨b0, 0, none⟩))) (g2 : cs[2]? = some (.pointer (some ⟨c1, 0, none⟩))) (g3 : cs[3]? = some (.pointer (some ⟨b1, 0, none⟩)))
    (hc0 : CellAt w c0 3) (hc1 : CellAt w c1 2) :
    Calls Tryz.prog 66 #[.pointer (some ⟨m, 0, none⟩), .pointer none, .int .i64 3] w fun e w' => e = .returned (.tuple #[.agg #[.pointer none, .pointer none], .bool false]) ∧ Same w w' := by
  have hp := fun w' (h' : Tab w') => place_1 3 (by omega) (by omega) w' h'
  have hi : placeOf 1 3 = 1 := by kernel_rfl
  rw [hi] at hp
  have s1 : Same w (w.alloc (.cells #[.pointer none, .pointer none] 132)) := (Chg.refl _ _).alloc _
  have ht1 := ht.same s1
  have d0 := (s1.blk h.blk (fun x => x)).cellAt 0 (v := .slice (some ⟨pb, 0, none⟩) 2 2) rfl
  have p1 := s1.blk h.pl (fun x => x)
  have e0 := p1.cellAt 0 g0
  have e1 := p1.cellAt 1 g1
  have e2 := p1.cellAt 2 g2
  have e3 := p1.cellAt 3 g3
  have hl0 := hc0.lt
  have hl1 := hc1.lt
  have hm := h.blk.lt
  have hpb := h.pl.lt
  clear hi g2 g3
  have g0' := Lib.hid g0
  have g1' := Lib.hid g1
  clear g0 g1
  go_enter Tryz.func66, Tryz.ntmps66
  go_wp2_with fail
  refine (hp _ ht1).mono ?_
  rintro e w' ⟨rfl, rfl⟩
  clear hp
  go_wp2_with fail
  refine wp_loop_rounds 3 ?_; rw [rounds_succ]
  go_wp2_with fail
  have q1 : IntKind.i64.wrap ((1 : Int) + 0) = 1 := by kernel_rfl
  have q2 : IntKind.i64.wrap (1 : Int) = 1 := by kernel_rfl
  have q3 : (1 : Int).tmod 2 = 1 := by kernel_rfl
  have q4 : IntKind.i64.wrap ((1 : Int) + 1) = 2 := by kernel_rfl
  have q5 : IntKind.i64.wrap (2 : Int) = 2 := by kernel_rfl
  have q6 : (2 : Int).tmod 2 = 0 := by kernel_rfl
  have y0 := d0
  have y1 := e2
  have y2 := e3
  clear d0 e0 e1 e2 e3
  go_region_held3 (fun w' => w'.cell? ⟨m, 0, none⟩ = some (.slice (some ⟨pb, 0, none⟩) 2 2) ∧ w'.cell? ⟨pb, 2, none⟩ = some (.pointer (some ⟨c1, 0, none⟩)) ∧ w'.cell? ⟨pb, 3, none⟩ = some (.pointer (some ⟨b1, 0, none⟩))) (go_keep) (fail)
  go_wp2_with fail
  refine wp_loop_rounds 1 ?_; rw [rounds_succ]
  go_wp2_with fail
  have a1 : CellAt ((w.alloc (.cells #[.pointer none, .pointer none] 132)).alloc (.cells #[.pointer (some ⟨c1, 0, none⟩), .pointer (some ⟨b1, 0, none⟩)] 132)).drew c1 2 := ((hc1.al _).al _).dr
  have kR : Blk ((w.alloc (.cells #[.pointer none, .pointer none] 132)).alloc (.cells #[.pointer (some ⟨c1, 0, none⟩), .pointer (some ⟨b1, 0, none⟩)] 132)).drew w.heap.size #[.pointer none, .pointer none] 132 := ((Blk.new _ _ _).alloc _).drew
  have sW : Same w ((w.alloc (.cells #[.pointer none, .pointer none] 132)).alloc (.cells #[.pointer (some ⟨c1, 0, none⟩), .pointer (some ⟨b1, 0, none⟩)] 132)).drew := (((Chg.refl _ _).alloc _).alloc _).drew
  generalize ((w.alloc (.cells #[.pointer none, .pointer none] 132)).alloc (.cells #[.pointer (some ⟨c1, 0, none⟩), .pointer (some ⟨b1, 0, none⟩)] 132)).drew = w1 at *
  clear y0 y1 y2 ht1 s1
  have d0 := (sW.blk h.blk (fun x => x)).cellAt 0 (v := .slice (some ⟨pb, 0, none⟩) 2 2) rfl
  have p2 := sW.blk h.pl (fun x => x)
  have e0 := p2.cellAt 0 g0'.out
  have e1 := p2.cellAt 1 g1'.out
  have hc2 := hc0.chg sW (fun x => x)
  clear p1 h p2
  refine (cell_load_at w1 c1 2 a1).mono ?_
  rintro e w' ⟨rfl, rfl⟩
  go_wp2_with fail
  rw [rounds_succ]
  go_wp2_with fail
  go_region_held3 (fun w' => w'.cell? ⟨m, 0, none⟩ = some (.slice (some ⟨pb, 0, none⟩) 2 2) ∧ w'.cell? ⟨pb, 0, none⟩ = some (.pointer (some ⟨c0, 0, none⟩)) ∧ w'.cell? ⟨pb, 1, none⟩ = some (.pointer (some ⟨b0, 0, none⟩))) (go_keep) (fail)
  go_wp2_with fail
  refine wp_loop_rounds 1 ?_; rw [rounds_succ]
  go_wp2_with fail
  have a2 : CellAt (w1.alloc (.cells #[.pointer (some ⟨c0, 0, none⟩), .pointer (some ⟨b0, 0, none⟩)] 132)).drew c0 3 := (hc2.al _).dr
  have kR2 : Blk (w1.alloc (.cells #[.pointer (some ⟨c0, 0, none⟩), .pointer (some ⟨b0, 0, none⟩)] 132)).drew w.heap.size #[.pointer none, .pointer none] 132 := (kR.alloc _).drew
  have sW2 : Same w (w1.alloc (.cells #[.pointer (some ⟨c0, 0, none⟩), .pointer (some ⟨b0, 0, none⟩)] 132)).drew := (sW.alloc _).drew
  generalize (w1.alloc (.cells #[.pointer (some ⟨c0, 0, none⟩), .pointer (some ⟨b0, 0, none⟩)] 132)).drew = w2 at *
  clear d0 e0 e1 hc2 sW kR q1 q2 q3 q4 q5 q6 a1
  have r0 := kR2.cellAt 0 (v := .pointer none) rfl
  have r1 := kR2.cellAt 1 (v := .pointer none) rfl
  have f0 := kR2.free 0
  have f1 := kR2.free 1
  have k1 := (kR2.set 0 (.pointer none)).set 1 (.pointer none)
  have u0 := k1.cellAt 0 (v := .pointer none) rfl
  have u1 := k1.cellAt 1 (v := .pointer none) rfl
  have hch : Chg (fun k => k = w.heap.size) w2 ((w2.setCell ⟨w.heap.size, 0, none⟩ (.pointer none)).setCell ⟨w.heap.size, 1, none⟩ (.pointer none)) := Chg.setCell (S := fun j => j = w.heap.size) (p := ⟨w.heap.size, 1, none⟩) (Chg.setCell (S := fun j => j = w.heap.size) (p := ⟨w.heap.size, 0, none⟩) (Chg.refl _ _) (.inl rfl) _) (.inl rfl) _
  have hfin : Same w ((w2.setCell ⟨w.heap.size, 0, none⟩ (.pointer none)).setCell ⟨w.heap.size, 1, none⟩ (.pointer none)) := sW2.trans' hch (fun i hi e => by omega)
  clear kR2 sW2 hch
  refine (cell_load_at w2 c0 3 a2).mono ?_
  rintro e w' ⟨rfl, rfl⟩
  clear a2
  go_wp2_with fail
  rw [rounds_succ]
  go_wp2_with fail
  refine bodyPost_ret (v := .tuple #[.agg #[.pointer none, .pointer none], .bool false]) (by simp [results, Tryz.results66, go_sem, u0, u1]) rfl ⟨rfl, hfin⟩
end Go.Proofs.YtgdjbfcdkibdbaaGreatDoor
