/- treadlelaw12.Make at every kind. Conditions: treadlelaw12.plain holds what the program lays. -/
import Derived.Test.YtgdjbfcdkibdbaaDoorBrought
import Derived.Test.YtgdjbfcdkibdbaaDoorMore
import Derived.LoopTactic
import Derived.Lib.Hide
namespace Go.Proofs.YtgdjbfcdkibdbaaDoor
open Go Go.RowKit
set_option maxRecDepth 100000
set_option maxHeartbeats 1000000
theorem Ints.at {w : World} {v : Value} {zs : List Int} (h : Ints w v zs) (hz : zs ≠ []) : ∃ b off cap, v = .slice (some ⟨b, off, none⟩) zs.length cap ∧ b < w.heap.size ∧ ∀ j, j < zs.length → w.cell? ⟨b, off + j, none⟩ = some (.int .i64 (zs.getD j 0)) := by
  obtain ⟨_, ⟨_, _, _, h⟩ | ⟨b, off, cap, rfl, _, hc⟩⟩ := h
  · exact absurd h hz
  · refine ⟨b, off, cap, rfl, World.block_lt_of_cell? w ⟨b, off + 0, none⟩ (hc 0 ?_), hc⟩
    rcases zs with _ | ⟨z, zs⟩
    · exact absurd rfl hz
    · simp
theorem make_1 (w : World) (n : Int) (v : Value) (zs : List Int) (hv : Ints w v zs) (hlen : zs.length ≤ 100000) :
    Calls Tryd.prog 18 #[.agg #[.int .i64 1, .int .i64 n, v]] w fun e w' => ∃ x, e = .returned x ∧ ErrAt w' zs (some (.failed n)) x ∧ Same w w' := by
  have hlv : ∃ p cap, v = .slice p zs.length cap := by
    obtain ⟨_, ⟨q, cq, rfl, rfl⟩ | ⟨b, off, cap, rfl, _, _⟩⟩ := hv
    · exact ⟨q, cq, rfl⟩
    · exact ⟨some ⟨b, off, none⟩, cap, rfl⟩
  obtain ⟨p, cap, rfl⟩ := hlv
  have hv' := Lib.hid hv
  clear hv
  go_enter Tryd.func18, Tryd.ntmps18
  go_wp2_with fail
  have kE : Blk ((w.alloc (.cells #[.int .i64 1, .int .i64 n, .slice p zs.length cap] 43)).alloc (.cells #[.int .i64 n] 85)) w.heap.size #[.int .i64 1, .int .i64 n, .slice p zs.length cap] 43 := (Blk.new _ _ _).alloc _
  have kB : ErrAt ((w.alloc (.cells #[.int .i64 1, .int .i64 n, .slice p zs.length cap] 43)).alloc (.cells #[.int .i64 n] 85)) [] (some (.failed n)) (.iface 55 (.pointer (some ⟨w.heap.size + 1, 0, none⟩))) := ⟨w.heap.size + 1, rfl, Blk.neww (by simp) _ _⟩
  have s1 : Same w ((w.alloc (.cells #[.int .i64 1, .int .i64 n, .slice p zs.length cap] 43)).alloc (.cells #[.int .i64 n] 85)) := ((Chg.refl _ _).alloc _).alloc _
  generalize (w.alloc (.cells #[.int .i64 1, .int .i64 n, .slice p zs.length cap] 43)).alloc (.cells #[.int .i64 n] 85) = w1 at *
  go_loopw [3, 4] (fun x i wr => ∃ (m : Nat) (E : TypeId) (y : Value), m ≤ zs.length ∧ x = .iface E y ∧ i = .int .i64 ((m : Int) - 1) ∧ ErrAt wr (zs.drop m ++ []) (some (.failed n)) x ∧ Same w1 wr) (fun _ i _ => (intOf i + 1).toNat)
  case atStart => exact ⟨zs.length, _, _, Nat.le_refl _, rfl, rfl, by simpa using kB, Chg.refl _ _⟩
  case round =>
    rename World => wr
    obtain ⟨m, E, y, hm, rfl, rfl, he, hs⟩ := hrel
    have m1 : Same w wr := s1.trans hs
    have kE' := hs.blk kE (fun x => x)
    have c2 := kE'.cellAt 2 (v := .slice p zs.length cap) rfl
    clear kE kE' kB
    rcases m with _ | m
    · go_wp2_with fail
      go_ret
      exact ⟨_, rfl, by simpa using he, m1⟩
    · obtain ⟨b, off, cap', hp, hbl, hc⟩ := hv'.out.at (by rintro rfl; simp at hm)
      obtain ⟨rfl, rfl⟩ : p = some ⟨b, off, none⟩ ∧ cap = cap' := by simpa using hp
      have d1 := (m1.cell (p := ⟨b, off + m, none⟩) hbl (fun x => x)).trans (hc m (by omega))
      have hcast : ((m + 1 : Nat) : Int) - 1 = (m : Int) := by omega
      rw [hcast] at *
      clear hc hp hv'
      go_wp2_with fail
      refine ⟨⟨m, _, _, by omega, rfl, rfl, ?_, hs.alloc _⟩, ?_⟩
      · have e1 : zs.drop m = zs.getD m 0 :: zs.drop (m + 1) := by
          rw [List.drop_eq_getElem_cons (by omega)]
          simp [List.getElem?_eq_getElem (show m < zs.length by omega)]
        rw [e1]
        refine ⟨wr.heap.size, .iface E y, rfl, ?_, ErrAt.same ((Chg.refl _ _).alloc _) he⟩
        have := Blk.new wr #[.int .i64 (zs[m]?.getD 0), .iface E y] 120
        simpa using this
      · simp only [intOf]; omega
theorem make_2 (w : World) (n : Int) (v : Value) (zs : List Int) (hv : Ints w v zs) (hlen : zs.length ≤ 100000) :
    Calls Tryd.prog 18 #[.agg #[.int .i64 2, .int .i64 n, v]] w fun e w' => ∃ x, e = .returned x ∧ ErrAt w' zs (some (.cancelled n)) x ∧ Same w w' := by
  have hlv : ∃ p cap, v = .slice p zs.length cap := by
    obtain ⟨_, ⟨q, cq, rfl, rfl⟩ | ⟨b, off, cap, rfl, _, _⟩⟩ := hv
    · exact ⟨q, cq, rfl⟩
    · exact ⟨some ⟨b, off, none⟩, cap, rfl⟩
  obtain ⟨p, cap, rfl⟩ := hlv
  have hv' := Lib.hid hv
  clear hv
  go_enter Tryd.func18, Tryd.ntmps18
  go_wp2_with fail
  have kE : Blk ((w.alloc (.cells #[.int .i64 2, .int .i64 n, .slice p zs.length cap] 43)).alloc (.cells #[.int .i64 n] 88)) w.heap.size #[.int .i64 2, .int .i64 n, .slice p zs.length cap] 43 := (Blk.new _ _ _).alloc _
  have kB : ErrAt ((w.alloc (.cells #[.int .i64 2, .int .i64 n, .slice p zs.length cap] 43)).alloc (.cells #[.int .i64 n] 88)) [] (some (.cancelled n)) (.iface 56 (.pointer (some ⟨w.heap.size + 1, 0, none⟩))) := ⟨w.heap.size + 1, rfl, Blk.neww (by simp) _ _⟩
  have s1 : Same w ((w.alloc (.cells #[.int .i64 2, .int .i64 n, .slice p zs.length cap] 43)).alloc (.cells #[.int .i64 n] 88)) := ((Chg.refl _ _).alloc _).alloc _
  generalize (w.alloc (.cells #[.int .i64 2, .int .i64 n, .slice p zs.length cap] 43)).alloc (.cells #[.int .i64 n] 88) = w1 at *
  go_loopw [3, 4] (fun x i wr => ∃ (m : Nat) (E : TypeId) (y : Value), m ≤ zs.length ∧ x = .iface E y ∧ i = .int .i64 ((m : Int) - 1) ∧ ErrAt wr (zs.drop m ++ []) (some (.cancelled n)) x ∧ Same w1 wr) (fun _ i _ => (intOf i + 1).toNat)
  case atStart => exact ⟨zs.length, _, _, Nat.le_refl _, rfl, rfl, by simpa using kB, Chg.refl _ _⟩
  case round =>
    rename World => wr
    obtain ⟨m, E, y, hm, rfl, rfl, he, hs⟩ := hrel
    have m1 : Same w wr := s1.trans hs
    have kE' := hs.blk kE (fun x => x)
    have c2 := kE'.cellAt 2 (v := .slice p zs.length cap) rfl
    clear kE kE' kB
    rcases m with _ | m
    · go_wp2_with fail
      go_ret
      exact ⟨_, rfl, by simpa using he, m1⟩
    · obtain ⟨b, off, cap', hp, hbl, hc⟩ := hv'.out.at (by rintro rfl; simp at hm)
      obtain ⟨rfl, rfl⟩ : p = some ⟨b, off, none⟩ ∧ cap = cap' := by simpa using hp
      have d1 := (m1.cell (p := ⟨b, off + m, none⟩) hbl (fun x => x)).trans (hc m (by omega))
      have hcast : ((m + 1 : Nat) : Int) - 1 = (m : Int) := by omega
      rw [hcast] at *
      clear hc hp hv'
      go_wp2_with fail
      refine ⟨⟨m, _, _, by omega, rfl, rfl, ?_, hs.alloc _⟩, ?_⟩
      · have e1 : zs.drop m = zs.getD m 0 :: zs.drop (m + 1) := by
          rw [List.drop_eq_getElem_cons (by omega)]
          simp [List.getElem?_eq_getElem (show m < zs.length by omega)]
        rw [e1]
        refine ⟨wr.heap.size, .iface E y, rfl, ?_, ErrAt.same ((Chg.refl _ _).alloc _) he⟩
        have := Blk.new wr #[.int .i64 (zs[m]?.getD 0), .iface E y] 120
        simpa using this
      · simp only [intOf]; omega
theorem make_3 (w : World) (n : Int) (v : Value) (zs : List Int) (hv : Ints w v zs) (hlen : zs.length ≤ 100000) :
    Calls Tryd.prog 18 #[.agg #[.int .i64 3, .int .i64 n, v]] w fun e w' => ∃ x, e = .returned x ∧ ErrAt w' zs (some (.late n)) x ∧ Same w w' := by
  have hlv : ∃ p cap, v = .slice p zs.length cap := by
    obtain ⟨_, ⟨q, cq, rfl, rfl⟩ | ⟨b, off, cap, rfl, _, _⟩⟩ := hv
    · exact ⟨q, cq, rfl⟩
    · exact ⟨some ⟨b, off, none⟩, cap, rfl⟩
  obtain ⟨p, cap, rfl⟩ := hlv
  have hv' := Lib.hid hv
  clear hv
  go_enter Tryd.func18, Tryd.ntmps18
  go_wp2_with fail
  have kE : Blk ((w.alloc (.cells #[.int .i64 3, .int .i64 n, .slice p zs.length cap] 43)).alloc (.cells #[.int .i64 n] 91)) w.heap.size #[.int .i64 3, .int .i64 n, .slice p zs.length cap] 43 := (Blk.new _ _ _).alloc _
  have kB : ErrAt ((w.alloc (.cells #[.int .i64 3, .int .i64 n, .slice p zs.length cap] 43)).alloc (.cells #[.int .i64 n] 91)) [] (some (.late n)) (.iface 57 (.pointer (some ⟨w.heap.size + 1, 0, none⟩))) := ⟨w.heap.size + 1, rfl, Blk.neww (by simp) _ _⟩
  have s1 : Same w ((w.alloc (.cells #[.int .i64 3, .int .i64 n, .slice p zs.length cap] 43)).alloc (.cells #[.int .i64 n] 91)) := ((Chg.refl _ _).alloc _).alloc _
  generalize (w.alloc (.cells #[.int .i64 3, .int .i64 n, .slice p zs.length cap] 43)).alloc (.cells #[.int .i64 n] 91) = w1 at *
  go_loopw [3, 4] (fun x i wr => ∃ (m : Nat) (E : TypeId) (y : Value), m ≤ zs.length ∧ x = .iface E y ∧ i = .int .i64 ((m : Int) - 1) ∧ ErrAt wr (zs.drop m ++ []) (some (.late n)) x ∧ Same w1 wr) (fun _ i _ => (intOf i + 1).toNat)
  case atStart => exact ⟨zs.length, _, _, Nat.le_refl _, rfl, rfl, by simpa using kB, Chg.refl _ _⟩
  case round =>
    rename World => wr
    obtain ⟨m, E, y, hm, rfl, rfl, he, hs⟩ := hrel
    have m1 : Same w wr := s1.trans hs
    have kE' := hs.blk kE (fun x => x)
    have c2 := kE'.cellAt 2 (v := .slice p zs.length cap) rfl
    clear kE kE' kB
    rcases m with _ | m
    · go_wp2_with fail
      go_ret
      exact ⟨_, rfl, by simpa using he, m1⟩
    · obtain ⟨b, off, cap', hp, hbl, hc⟩ := hv'.out.at (by rintro rfl; simp at hm)
      obtain ⟨rfl, rfl⟩ : p = some ⟨b, off, none⟩ ∧ cap = cap' := by simpa using hp
      have d1 := (m1.cell (p := ⟨b, off + m, none⟩) hbl (fun x => x)).trans (hc m (by omega))
      have hcast : ((m + 1 : Nat) : Int) - 1 = (m : Int) := by omega
      rw [hcast] at *
      clear hc hp hv'
      go_wp2_with fail
      refine ⟨⟨m, _, _, by omega, rfl, rfl, ?_, hs.alloc _⟩, ?_⟩
      · have e1 : zs.drop m = zs.getD m 0 :: zs.drop (m + 1) := by
          rw [List.drop_eq_getElem_cons (by omega)]
          simp [List.getElem?_eq_getElem (show m < zs.length by omega)]
        rw [e1]
        refine ⟨wr.heap.size, .iface E y, rfl, ?_, ErrAt.same ((Chg.refl _ _).alloc _) he⟩
        have := Blk.new wr #[.int .i64 (zs[m]?.getD 0), .iface E y] 120
        simpa using this
      · simp only [intOf]; omega
theorem make_4 (w : World) (n : Int) (v : Value) (zs : List Int) (hv : Ints w v zs) (hlen : zs.length ≤ 100000) :
    Calls Tryd.prog 18 #[.agg #[.int .i64 4, .int .i64 n, v]] w fun e w' => ∃ x, e = .returned x ∧ ErrAt w' zs (some (.panicked (.iface 2 (.int .i64 n)))) x ∧ Same w w' := by
  have hlv : ∃ p cap, v = .slice p zs.length cap := by
    obtain ⟨_, ⟨q, cq, rfl, rfl⟩ | ⟨b, off, cap, rfl, _, _⟩⟩ := hv
    · exact ⟨q, cq, rfl⟩
    · exact ⟨some ⟨b, off, none⟩, cap, rfl⟩
  obtain ⟨p, cap, rfl⟩ := hlv
  have hv' := Lib.hid hv
  clear hv
  go_enter Tryd.func18, Tryd.ntmps18
  go_wp2_with fail
  have kE : Blk ((w.alloc (.cells #[.int .i64 4, .int .i64 n, .slice p zs.length cap] 43)).alloc (.cells #[.iface 2 (.int .i64 n)] 78)) w.heap.size #[.int .i64 4, .int .i64 n, .slice p zs.length cap] 43 := (Blk.new _ _ _).alloc _
  have kB : ErrAt ((w.alloc (.cells #[.int .i64 4, .int .i64 n, .slice p zs.length cap] 43)).alloc (.cells #[.iface 2 (.int .i64 n)] 78)) [] (some (.panicked (.iface 2 (.int .i64 n)))) (.iface 58 (.pointer (some ⟨w.heap.size + 1, 0, none⟩))) := ⟨w.heap.size + 1, rfl, Blk.neww (by simp) _ _⟩
  have s1 : Same w ((w.alloc (.cells #[.int .i64 4, .int .i64 n, .slice p zs.length cap] 43)).alloc (.cells #[.iface 2 (.int .i64 n)] 78)) := ((Chg.refl _ _).alloc _).alloc _
  generalize (w.alloc (.cells #[.int .i64 4, .int .i64 n, .slice p zs.length cap] 43)).alloc (.cells #[.iface 2 (.int .i64 n)] 78) = w1 at *
  go_loopw [3, 4] (fun x i wr => ∃ (m : Nat) (E : TypeId) (y : Value), m ≤ zs.length ∧ x = .iface E y ∧ i = .int .i64 ((m : Int) - 1) ∧ ErrAt wr (zs.drop m ++ []) (some (.panicked (.iface 2 (.int .i64 n)))) x ∧ Same w1 wr) (fun _ i _ => (intOf i + 1).toNat)
  case atStart => exact ⟨zs.length, _, _, Nat.le_refl _, rfl, rfl, by simpa using kB, Chg.refl _ _⟩
  case round =>
    rename World => wr
    obtain ⟨m, E, y, hm, rfl, rfl, he, hs⟩ := hrel
    have m1 : Same w wr := s1.trans hs
    have kE' := hs.blk kE (fun x => x)
    have c2 := kE'.cellAt 2 (v := .slice p zs.length cap) rfl
    clear kE kE' kB
    rcases m with _ | m
    · go_wp2_with fail
      go_ret
      exact ⟨_, rfl, by simpa using he, m1⟩
    · obtain ⟨b, off, cap', hp, hbl, hc⟩ := hv'.out.at (by rintro rfl; simp at hm)
      obtain ⟨rfl, rfl⟩ : p = some ⟨b, off, none⟩ ∧ cap = cap' := by simpa using hp
      have d1 := (m1.cell (p := ⟨b, off + m, none⟩) hbl (fun x => x)).trans (hc m (by omega))
      have hcast : ((m + 1 : Nat) : Int) - 1 = (m : Int) := by omega
      rw [hcast] at *
      clear hc hp hv'
      go_wp2_with fail
      refine ⟨⟨m, _, _, by omega, rfl, rfl, ?_, hs.alloc _⟩, ?_⟩
      · have e1 : zs.drop m = zs.getD m 0 :: zs.drop (m + 1) := by
          rw [List.drop_eq_getElem_cons (by omega)]
          simp [List.getElem?_eq_getElem (show m < zs.length by omega)]
        rw [e1]
        refine ⟨wr.heap.size, .iface E y, rfl, ?_, ErrAt.same ((Chg.refl _ _).alloc _) he⟩
        have := Blk.new wr #[.int .i64 (zs[m]?.getD 0), .iface E y] 120
        simpa using this
      · simp only [intOf]; omega
end Go.Proofs.YtgdjbfcdkibdbaaDoor
