/- memo's Keys of two; treadlelaw12.Alike of an error and itself. Conditions: none. -/
import Derived.Test.YtgdjbfcdkibdbaaGreatDoorWorks15
import Derived.OwnWalk
import Derived.LaidEql
import Derived.Deep.AppendLies
namespace Go.Proofs.YtgdjbfcdkibdbaaGreatDoor
open Go Go.RowKit
set_option maxRecDepth 100000
set_option maxHeartbeats 2000000
theorem failed_comp : (Tryz.prog.info? 141).map (·.comparable) = some true := by kernel_rfl
theorem failed_size : (Tryz.prog.info? 143).map (·.size) = some 1 := by kernel_rfl
theorem alike_failed (w : World) (b : Nat) : Calls Tryz.prog 75 #[.iface 141 (.pointer (some ⟨b, 0, none⟩)), .iface 141 (.pointer (some ⟨b, 0, none⟩))] w fun e w' => e = .returned (.bool true) ∧ w = w' := by
  obtain ⟨i, hi, hcmp⟩ := Option.map_eq_some_iff.1 failed_comp
  obtain ⟨j, hj, hjs⟩ := Option.map_eq_some_iff.1 failed_size
  have heq := run_eql_iface_ptr_same (P := Tryz.prog) w ⟨b, 0, none⟩ Tryz.underlying31 Tryz.underlying141 hi hcmp hj
  go_enter Tryz.func75, Tryz.ntmps75
  go_wp2_with fail
  go_ret
  exact ⟨rfl, rfl⟩
theorem keys_two {w : World} {m pb : Nat} {cs : Array Value} (h : MemoB w m pb 2 cs) (c0 c1 : Nat) (x0 x1 : Int) (g0 : cs[0]? = some (.pointer (some ⟨c0, 0, none⟩))) (g2 : cs[2]? = some (.pointer (some ⟨c1, 0, none⟩))) (hc0 : CellAt w c0 x0) (hc1 : CellAt w c1 x1) (a0 : 0 < x0) (a1 : 0 < x1) (b0 : x0 < 1000) (b1 : x1 < 1000) :
    Calls Tryz.prog 17 #[.pointer (some ⟨m, 0, none⟩), .pointer none] w fun e w' => ∃ p c, e = .returned (.slice p 2 c) ∧ Same w w' := by
  obtain ⟨i0, hi, hz0, hz1, hz2⟩ := info_parts (P := Tryz.prog) (e := 2) (z := .int .i64 0) (size := 1) (bytes := 8) (by kernel_rfl)
  have d0 := h.blk.cellAt 0 (v := .slice (some ⟨pb, 0, none⟩) 2 2) rfl
  have e0 := h.pl.cellAt 0 g0
  have e2 := h.pl.cellAt 2 g2
  have hmb := h.blk.lt
  have hpb := h.pl.lt
  go_enter Tryz.func17, Tryz.ntmps17
  go_wp2_with fail
  refine (memo_made h (by omega)).mono ?_
  rintro e w' ⟨rfl, rfl⟩
  go_wp2_with fail
  refine wp_loop_rounds 3 ?_; rw [rounds_succ]
  go_wp2_with fail
  refine (cell_load_at w c0 x0 hc0).mono ?_
  rintro e w' ⟨rfl, rfl⟩
  have n0 : (x0 != 0) = true := by simp; omega
  have n0' : (x0 == 0) = false := by simp; omega
  go_wp2_with (at_builtin; refine wpList_append_own _ rfl _ _ 37 rfl w.heap.size 2 i0 (.int .i64 0) 1 8 Tryz.underlying37 hi hz0 hz1 hz2 rfl (by decide) _ _ _ rfl (World.ownsRow_nil _ _ _ _) ⟨w.heap.size, 0, none⟩ 1 1 [.int .i64 (x0 - 1)] rfl rfl ?c1 ?c2 ?c3 ?c4 ?c5 ?c6)
  case c1 =>
    intro j u hj
    rcases j with _ | j
    · simp at hj; subst hj; exact (Blk.new w _ _).cellAt 0 rfl
    · simp at hj
  case c2 => intro u hu; simp at hu; subst hu; rfl
  case c3 => decide
  case c4 => decide
  case c5 => simp
  case c6 =>
    intro v1 w1 ho1 hg1 hn1
    obtain ⟨gg, cap, rfl, hgg, hgl⟩ := ho1.form (by omega)
    have s1 : Same w w1 := (Chg.alloc (Chg.refl _ _) _).trans (Chg.of_grown hg1)
    have h1 := h.chg s1 (fun x => x) (fun x => x)
    have d1 := h1.blk.cellAt 0 (v := .slice (some ⟨pb, 0, none⟩) 2 2) rfl
    have e1 := h1.pl.cellAt 2 g2
    have hc1' := hc1.chg s1 (fun x => x)
    clear d0 e0 e2 h hc0 hc1 n0 n0' hg1 h1
    go_wp2_with fail
    rw [rounds_succ]
    go_wp2_with fail
    refine (cell_load_at w1 c1 x1 hc1').mono ?_
    rintro e w' ⟨rfl, rfl⟩
    have n0 : (x1 != 0) = true := by simp; omega
    go_wp2_with (at_builtin; refine wpList_append_own _ rfl _ _ 37 rfl w.heap.size 2 i0 (.int .i64 0) 1 8 Tryz.underlying37 hi hz0 hz1 hz2 rfl (by decide) _ _ _ rfl (ho1.alloc _) ⟨w1.heap.size, 0, none⟩ 1 1 [.int .i64 (x1 - 1)] rfl rfl ?k1 ?k2 ?k3 ?k4 ?k5 ?k6)
    case k1 =>
      intro j u hj
      rcases j with _ | j
      · simp at hj; subst hj; exact (Blk.new w1 _ _).cellAt 0 rfl
      · simp at hj
    case k2 => intro u hu; simp at hu; subst hu; rfl
    case k3 => decide
    case k4 => decide
    case k5 => have := s1.size; simp; omega
    case k6 =>
      intro v2 w2 ho2 hg2 hn2
      obtain ⟨g3, cap3, rfl, hgg3, hgl3⟩ := ho2.form (by omega)
      have s2 : Same w w2 := (s1.alloc _).trans' (S' := fun k => gg = k) ⟨hg2.os, hg2.tape, hg2.output, hg2.size, fun k hk hn => hg2.block k hk (fun e => hn (by simpa [Value.ownBlock] using e.symm))⟩ (fun i hi e => by omega)
      clear d1 e1 hc1' hg2 ho2 ho1
      go_wp2_with fail
      rw [rounds_succ]
      go_wp2_with fail
      go_ret
      exact ⟨_, _, rfl, s2⟩
end Go.Proofs.YtgdjbfcdkibdbaaGreatDoor
