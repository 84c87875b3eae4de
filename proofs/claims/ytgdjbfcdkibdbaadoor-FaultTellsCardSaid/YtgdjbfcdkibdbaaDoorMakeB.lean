/- treadlelaw12.Make and brought at the kinds none, plain, bare and number. Conditions: treadlelaw12.plain holds what the program lays. -/
import Derived.Test.YtgdjbfcdkibdbaaDoorMake
import Derived.Test.YtgdjbfcdkibdbaaDoorTextT
namespace Go.Proofs.YtgdjbfcdkibdbaaDoor
open Go Go.RowKit
set_option maxRecDepth 100000
set_option maxHeartbeats 1000000
theorem Ints.slice {w : World} {v : Value} {zs : List Int} (hv : Ints w v zs) : ∃ p cap, v = .slice p zs.length cap := by
  obtain ⟨_, ⟨q, cq, rfl, rfl⟩ | ⟨b, off, cap, rfl, _, _⟩⟩ := hv
  · exact ⟨q, cq, rfl⟩
  · exact ⟨some ⟨b, off, none⟩, cap, rfl⟩
theorem brought_0 (w : World) (k n : Int) (v : Value) (zs : List Int) (hv : Ints w v zs) (hk : bKind k = 0) :
    Calls Tryd.prog 17 #[.agg #[.int .i64 k, .int .i64 n, v]] w fun e w' => e = .returned (.agg #[.int .i64 0, .int .i64 0, .slice none 0 0]) ∧ Same w w' := by
  have hw : wrap64 (k.tmod 8 + 8) = k.tmod 8 + 8 := by
    have h1 := Int.tmod_lt_of_pos k (show (0:Int) < 8 by decide)
    have h2 := Int.lt_tmod_of_pos k (show (0:Int) < 8 by decide)
    unfold wrap64
    omega
  have hK : (k.tmod 8 + 8).tmod 8 = 0 := hk
  clear hk
  obtain ⟨hl, ⟨q, cq, rfl, rfl⟩ | ⟨b, off, cap, rfl, hcp, hc⟩⟩ := hv
  · go_enter Tryd.func17, Tryd.ntmps17
    go_wp2_with fail
    refine bodyPost_ret (results_cell_row rfl _ _ (w.heap.size + 1) _ #[.int .i64 0, .int .i64 0, .slice none 0 0] (0, 0) _ rfl (Blk.new2 _ _ _ _ _) Tryd.underlying43 rfl (by kernel_rfl)) rfl ?_
    exact ⟨rfl, ((Chg.refl _ _).alloc _).alloc _⟩
  · clear hc
    by_cases hlen : zs.length > 1000
    · go_enter Tryd.func17, Tryd.ntmps17
      have hcp' : 1000 ≤ cap := by omega
      go_wp2_with fail
      refine bodyPost_ret (results_cell_row rfl _ _ (w.heap.size + 1) _ #[.int .i64 0, .int .i64 0, .slice none 0 0] (0, 0) _ rfl (Blk.new2 _ _ _ _ _) Tryd.underlying43 rfl (by kernel_rfl)) rfl ?_
      exact ⟨rfl, ((Chg.refl _ _).alloc _).alloc _⟩
    · go_enter Tryd.func17, Tryd.ntmps17
      go_wp2_with fail
      refine bodyPost_ret (results_cell_row rfl _ _ (w.heap.size + 1) _ #[.int .i64 0, .int .i64 0, .slice none 0 0] (0, 0) _ rfl (Blk.new2 _ _ _ _ _) Tryd.underlying43 rfl (by kernel_rfl)) rfl ?_
      exact ⟨rfl, ((Chg.refl _ _).alloc _).alloc _⟩
theorem brought_5 (w : World) (k n : Int) (v : Value) (zs : List Int) (hv : Ints w v zs) (hk : bKind k = 5) :
    Calls Tryd.prog 17 #[.agg #[.int .i64 k, .int .i64 n, v]] w fun e w' => ∃ v', e = .returned (.agg #[.int .i64 5, .int .i64 0, v']) ∧ Ints w' v' (zs.take 1000) ∧ Same w w' ∧ SameAt v v' := by
  have hw : wrap64 (k.tmod 8 + 8) = k.tmod 8 + 8 := by
    have h1 := Int.tmod_lt_of_pos k (show (0:Int) < 8 by decide)
    have h2 := Int.lt_tmod_of_pos k (show (0:Int) < 8 by decide)
    unfold wrap64
    omega
  have hK : (k.tmod 8 + 8).tmod 8 = 5 := hk
  clear hk
  obtain ⟨hl, ⟨q, cq, rfl, rfl⟩ | ⟨b, off, cap, rfl, hcp, hc⟩⟩ := hv
  · go_enter Tryd.func17, Tryd.ntmps17
    go_wp2_with fail
    refine bodyPost_ret (results_cell_row rfl _ _ (w.heap.size + 1) _ #[.int .i64 5, .int .i64 0, .slice q 0 cq] (0, 0) _ rfl (Blk.new2 _ _ _ _ _) Tryd.underlying43 rfl (by kernel_rfl)) rfl ?_
    exact ⟨_, rfl, ⟨by simp, .inl ⟨_, _, rfl, by simp⟩⟩, ((Chg.refl _ _).alloc _).alloc _, ⟨_, _, _, _, _, rfl, rfl⟩⟩
  · by_cases hlen : zs.length > 1000
    · go_enter Tryd.func17, Tryd.ntmps17
      have hcp' : 1000 ≤ cap := by omega
      go_wp2_with fail
      refine bodyPost_ret (results_cell_row rfl _ _ (w.heap.size + 1) _ #[.int .i64 5, .int .i64 0, .slice (some ⟨b, off, none⟩) 1000 cap] (0, 0) _ rfl (Blk.new2 _ _ _ _ _) Tryd.underlying43 rfl (by kernel_rfl)) rfl ?_
      refine ⟨_, rfl, ?_, ((Chg.refl _ _).alloc _).alloc _, ⟨_, _, _, _, _, rfl, rfl⟩⟩
      have hl2 : (zs.take 1000).length = 1000 := by rw [List.length_take]; omega
      refine Ints.same (w := w) ⟨by omega, .inr ⟨b, off, cap, by rw [hl2], by omega, fun j hj => ?_⟩⟩ (((Chg.refl _ _).alloc _).alloc _)
      rw [hc j (by omega)]
      simp [List.getD_eq_getElem?_getD, List.getElem?_take_of_lt (show j < 1000 by omega)]
    · go_enter Tryd.func17, Tryd.ntmps17
      go_wp2_with fail
      refine bodyPost_ret (results_cell_row rfl _ _ (w.heap.size + 1) _ #[.int .i64 5, .int .i64 0, .slice (some ⟨b, off, none⟩) zs.length cap] (0, 0) _ rfl (Blk.new2 _ _ _ _ _) Tryd.underlying43 rfl (by kernel_rfl)) rfl ?_
      refine ⟨_, rfl, ?_, ((Chg.refl _ _).alloc _).alloc _, ⟨_, _, _, _, _, rfl, rfl⟩⟩
      rw [List.take_of_length_le (by omega)]
      exact Ints.same (w := w) ⟨hl, .inr ⟨b, off, cap, rfl, hcp, hc⟩⟩ (((Chg.refl _ _).alloc _).alloc _)
theorem make_0 (w : World) :
    Calls Tryd.prog 18 #[.agg #[.int .i64 0, .int .i64 0, .slice none 0 0]] w fun e w' => e = .returned .nilIface ∧ Same w w' := by
  go_enter Tryd.func18, Tryd.ntmps18
  go_wp2_with fail
  refine wp_loop_rounds 1 ?_; rw [rounds_succ]
  go_wp2_with fail
  go_ret
  exact ⟨rfl, (Chg.refl _ _).alloc _⟩
theorem make_5 (w : World) (v : Value) (zs : List Int) (hv : Ints w v zs) (hlen : zs.length ≤ 100000) (a : Addr) (hpg : PlainG w a) :
    Calls Tryd.prog 18 #[.agg #[.int .i64 5, .int .i64 0, v]] w fun e w' => ∃ x, e = .returned x ∧ ErrAt w' zs (some (.plain a)) x ∧ Same w w' := by
  have hlv : ∃ p cap, v = .slice p zs.length cap := by
    obtain ⟨_, ⟨q, cq, rfl, rfl⟩ | ⟨b, off, cap, rfl, _, _⟩⟩ := hv
    · exact ⟨q, cq, rfl⟩
    · exact ⟨some ⟨b, off, none⟩, cap, rfl⟩
  obtain ⟨p, cap, rfl⟩ := hlv
  have hv' := Lib.hid hv
  clear hv
  unfold PlainG at hpg
  have hpl := World.block_lt_of_cell? w _ hpg
  go_enter Tryd.func18, Tryd.ntmps18
  go_wp2_with fail
  have kE : Blk (w.alloc (.cells #[.int .i64 5, .int .i64 0, .slice p zs.length cap] 43)) w.heap.size #[.int .i64 5, .int .i64 0, .slice p zs.length cap] 43 := Blk.new _ _ _
  have kB : ErrAt (w.alloc (.cells #[.int .i64 5, .int .i64 0, .slice p zs.length cap] 43)) [] (some (.plain a)) (.iface 240 (.pointer (some a))) := rfl
  have s1 : Same w (w.alloc (.cells #[.int .i64 5, .int .i64 0, .slice p zs.length cap] 43)) := (Chg.refl _ _).alloc _
  generalize (w.alloc (.cells #[.int .i64 5, .int .i64 0, .slice p zs.length cap] 43)) = w1 at *
  go_loopw [3, 4] (fun x i wr => ∃ (m : Nat) (E : TypeId) (y : Value), m ≤ zs.length ∧ x = .iface E y ∧ i = .int .i64 ((m : Int) - 1) ∧ ErrAt wr (zs.drop m ++ []) (some (.plain a)) x ∧ Same w1 wr) (fun _ i _ => (intOf i + 1).toNat)
  case atStart => exact ⟨zs.length, _, _, Nat.le_refl _, rfl, rfl, by simpa using kB, Chg.refl _ _⟩
  case round =>
    rename World => wr
    obtain ⟨m, E, y, hm, rfl, rfl, he, hs⟩ := hrel
    have m1 : Same w wr := s1.trans hs
    have kE' := hs.blk kE (fun x => x)
    have c2 := kE'.cellAt 2 (v := .slice p zs.length cap) rfl
    clear kE kE' kB
    rcases m with _ | m
    · go_wp2_with fail
      go_ret
      exact ⟨_, rfl, by simpa using he, m1⟩
    · obtain ⟨b, off, cap', hp, hbl, hc⟩ := hv'.out.at (by rintro rfl; simp at hm)
      obtain ⟨rfl, rfl⟩ : p = some ⟨b, off, none⟩ ∧ cap = cap' := by simpa using hp
      have d1 := (m1.cell (p := ⟨b, off + m, none⟩) hbl (fun x => x)).trans (hc m (by omega))
      have hcast : ((m + 1 : Nat) : Int) - 1 = (m : Int) := by omega
      rw [hcast] at *
      clear hc hp hv'
      go_wp2_with fail
      refine ⟨⟨m, _, _, by omega, rfl, rfl, ?_, hs.alloc _⟩, ?_⟩
      · have e1 : zs.drop m = zs.getD m 0 :: zs.drop (m + 1) := by
          rw [List.drop_eq_getElem_cons (by omega)]
          simp [List.getElem?_eq_getElem (show m < zs.length by omega)]
        rw [e1]
        refine ⟨wr.heap.size, .iface E y, rfl, ?_, ErrAt.same ((Chg.refl _ _).alloc _) he⟩
        have := Blk.new wr #[.int .i64 (zs[m]?.getD 0), .iface E y] 120
        simpa using this
      · simp only [intOf]; omega
theorem make_6 (w : World) (n : Int) (v : Value) (zs : List Int) (hv : Ints w v zs) (hlen : zs.length ≤ 100000) :
    Calls Tryd.prog 18 #[.agg #[.int .i64 6, .int .i64 n, v]] w fun e w' => ∃ x, e = .returned x ∧ ErrAt w' (zs ++ [n]) none x ∧ Same w w' := by
  have hlv : ∃ p cap, v = .slice p zs.length cap := by
    obtain ⟨_, ⟨q, cq, rfl, rfl⟩ | ⟨b, off, cap, rfl, _, _⟩⟩ := hv
    · exact ⟨q, cq, rfl⟩
    · exact ⟨some ⟨b, off, none⟩, cap, rfl⟩
  obtain ⟨p, cap, rfl⟩ := hlv
  have hv' := Lib.hid hv
  clear hv
  go_enter Tryd.func18, Tryd.ntmps18
  go_wp2_with fail
  have kE : Blk ((w.alloc (.cells #[.int .i64 6, .int .i64 n, .slice p zs.length cap] 43)).alloc (.cells #[.int .i64 n, .nilIface] 120)) w.heap.size #[.int .i64 6, .int .i64 n, .slice p zs.length cap] 43 := (Blk.new _ _ _).alloc _
  have kB : ErrAt ((w.alloc (.cells #[.int .i64 6, .int .i64 n, .slice p zs.length cap] 43)).alloc (.cells #[.int .i64 n, .nilIface] 120)) [n] none (.iface 59 (.pointer (some ⟨w.heap.size + 1, 0, none⟩))) := ⟨w.heap.size + 1, .nilIface, rfl, Blk.neww (by simp) _ _, rfl⟩
  have s1 : Same w ((w.alloc (.cells #[.int .i64 6, .int .i64 n, .slice p zs.length cap] 43)).alloc (.cells #[.int .i64 n, .nilIface] 120)) := ((Chg.refl _ _).alloc _).alloc _
  generalize ((w.alloc (.cells #[.int .i64 6, .int .i64 n, .slice p zs.length cap] 43)).alloc (.cells #[.int .i64 n, .nilIface] 120)) = w1 at *
  go_loopw [3, 4] (fun x i wr => ∃ (m : Nat) (E : TypeId) (y : Value), m ≤ zs.length ∧ x = .iface E y ∧ i = .int .i64 ((m : Int) - 1) ∧ ErrAt wr (zs.drop m ++ [n]) none x ∧ Same w1 wr) (fun _ i _ => (intOf i + 1).toNat)
  case atStart => exact ⟨zs.length, _, _, Nat.le_refl _, rfl, rfl, by simpa using kB, Chg.refl _ _⟩
  case round =>
    rename World => wr
    obtain ⟨m, E, y, hm, rfl, rfl, he, hs⟩ := hrel
    have m1 : Same w wr := s1.trans hs
    have kE' := hs.blk kE (fun x => x)
    have c2 := kE'.cellAt 2 (v := .slice p zs.length cap) rfl
    clear kE kE' kB
    rcases m with _ | m
    · go_wp2_with fail
      go_ret
      exact ⟨_, rfl, by simpa using he, m1⟩
    · obtain ⟨b, off, cap', hp, hbl, hc⟩ := hv'.out.at (by rintro rfl; simp at hm)
      obtain ⟨rfl, rfl⟩ : p = some ⟨b, off, none⟩ ∧ cap = cap' := by simpa using hp
      have d1 := (m1.cell (p := ⟨b, off + m, none⟩) hbl (fun x => x)).trans (hc m (by omega))
      have hcast : ((m + 1 : Nat) : Int) - 1 = (m : Int) := by omega
      rw [hcast] at *
      clear hc hp hv'
      go_wp2_with fail
      refine ⟨⟨m, _, _, by omega, rfl, rfl, ?_, hs.alloc _⟩, ?_⟩
      · have e1 : zs.drop m = zs.getD m 0 :: zs.drop (m + 1) := by
          rw [List.drop_eq_getElem_cons (by omega)]
          simp [List.getElem?_eq_getElem (show m < zs.length by omega)]
        rw [e1]
        refine ⟨wr.heap.size, .iface E y, rfl, ?_, ErrAt.same ((Chg.refl _ _).alloc _) he⟩
        have := Blk.new wr #[.int .i64 (zs[m]?.getD 0), .iface E y] 120
        simpa using this
      · simp only [intOf]; omega
theorem make_7 (w : World) (n : Int) (v : Value) (zs : List Int) (hv : Ints w v zs) (hlen : zs.length ≤ 100000) :
    Calls Tryd.prog 18 #[.agg #[.int .i64 7, .int .i64 n, v]] w fun e w' => ∃ x, e = .returned x ∧ ErrAt w' zs (some (.errno n)) x ∧ Same w w' := by
  have hlv : ∃ p cap, v = .slice p zs.length cap := by
    obtain ⟨_, ⟨q, cq, rfl, rfl⟩ | ⟨b, off, cap, rfl, _, _⟩⟩ := hv
    · exact ⟨q, cq, rfl⟩
    · exact ⟨some ⟨b, off, none⟩, cap, rfl⟩
  obtain ⟨p, cap, rfl⟩ := hlv
  have hv' := Lib.hid hv
  clear hv
  go_enter Tryd.func18, Tryd.ntmps18
  go_wp2_with fail
  have kE : Blk (w.alloc (.cells #[.int .i64 7, .int .i64 n, .slice p zs.length cap] 43)) w.heap.size #[.int .i64 7, .int .i64 n, .slice p zs.length cap] 43 := Blk.new _ _ _
  have kB : ErrAt (w.alloc (.cells #[.int .i64 7, .int .i64 n, .slice p zs.length cap] 43)) [] (some (.errno n)) (.iface 35 (.int .i64 n)) := rfl
  have s1 : Same w (w.alloc (.cells #[.int .i64 7, .int .i64 n, .slice p zs.length cap] 43)) := (Chg.refl _ _).alloc _
  generalize (w.alloc (.cells #[.int .i64 7, .int .i64 n, .slice p zs.length cap] 43)) = w1 at *
  go_loopw [3, 4] (fun x i wr => ∃ (m : Nat) (E : TypeId) (y : Value), m ≤ zs.length ∧ x = .iface E y ∧ i = .int .i64 ((m : Int) - 1) ∧ ErrAt wr (zs.drop m ++ []) (some (.errno n)) x ∧ Same w1 wr) (fun _ i _ => (intOf i + 1).toNat)
  case atStart => exact ⟨zs.length, _, _, Nat.le_refl _, rfl, rfl, by simpa using kB, Chg.refl _ _⟩
  case round =>
    rename World => wr
    obtain ⟨m, E, y, hm, rfl, rfl, he, hs⟩ := hrel
    have m1 : Same w wr := s1.trans hs
    have kE' := hs.blk kE (fun x => x)
    have c2 := kE'.cellAt 2 (v := .slice p zs.length cap) rfl
    clear kE kE' kB
    rcases m with _ | m
    · go_wp2_with fail
      go_ret
      exact ⟨_, rfl, by simpa using he, m1⟩
    · obtain ⟨b, off, cap', hp, hbl, hc⟩ := hv'.out.at (by rintro rfl; simp at hm)
      obtain ⟨rfl, rfl⟩ : p = some ⟨b, off, none⟩ ∧ cap = cap' := by simpa using hp
      have d1 := (m1.cell (p := ⟨b, off + m, none⟩) hbl (fun x => x)).trans (hc m (by omega))
      have hcast : ((m + 1 : Nat) : Int) - 1 = (m : Int) := by omega
      rw [hcast] at *
      clear hc hp hv'
      go_wp2_with fail
      refine ⟨⟨m, _, _, by omega, rfl, rfl, ?_, hs.alloc _⟩, ?_⟩
      · have e1 : zs.drop m = zs.getD m 0 :: zs.drop (m + 1) := by
          rw [List.drop_eq_getElem_cons (by omega)]
          simp [List.getElem?_eq_getElem (show m < zs.length by omega)]
        rw [e1]
        refine ⟨wr.heap.size, .iface E y, rfl, ?_, ErrAt.same ((Chg.refl _ _).alloc _) he⟩
        have := Blk.new wr #[.int .i64 (zs[m]?.getD 0), .iface E y] 120
        simpa using this
      · simp only [intOf]; omega
end Go.Proofs.YtgdjbfcdkibdbaaDoor
