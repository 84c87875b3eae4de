/- treadlelaw13's works: a task is run once, another is cancelled, a third panics: it answers true. Conditions: errors.errorType holds what the program lays. -/
import Derived.Test.YtgdjbfcdkibdbaaDoorTaskP
import Derived.WalkLawsBesides
namespace Go.Proofs.YtgdjbfcdkibdbaaDoor
open Go Go.RowKit
set_option maxRecDepth 100000
set_option maxHeartbeats 2000000
theorem w13f1 (t : Value) (c : Nat) (n : Int) (w : World) (h : Blk w c #[.int .i64 n] 3) (hn : 0 ≤ n ∧ n ≤ 1000) : Calls Tryd.prog 69 #[t, .pointer (some ⟨c, 0, none⟩)] w fun e w' => e = .returned (.tuple #[.int .i64 42, .nilIface]) ∧ Chg (· = c) w w' ∧ Blk w' c #[.int .i64 (n + 1)] 3 := by
  have c0 := h.cellAt 0 (v := .int .i64 n) rfl
  have z0 := h.free 0
  obtain ⟨n1, n2⟩ := hn
  go_enter Tryd.func69, Tryd.ntmps69
  go_wp2
  go_ret2
  refine ⟨rfl, Chg.setCell (S := fun k => k = c) (p := ⟨c, 0, none⟩) (Chg.refl _ _) (Or.inl rfl) _, ?_⟩
  have := h.set 0 (.int .i64 (n + 1))
  simpa using this
theorem w13f2 (t : Value) (c : Nat) (n : Int) (w : World) (h : Blk w c #[.int .i64 n] 3) : Calls Tryd.prog 70 #[t, .pointer (some ⟨c, 0, none⟩)] w fun e w' => e = .panicked [{ v := .iface 2 (.int .i64 n), recovered := false }] ∧ w = w' := by
  have c0 := h.cellAt 0 (v := .int .i64 n) rfl
  go_enter Tryd.func70, Tryd.ntmps70
  go_wp2
  exact ⟨rfl, rfl, rfl⟩
theorem enter69 (c : Value) (a : Value) (w : World) : (callFunc 69 (#[a] ++ #[c])).run Tryd.prog w = .ok (.enter 69 (#[a] ++ #[c])) w :=
  Go.MuLone.run_callFunc_enter Tryd.func69 (by kernel_rfl) rfl _ w
theorem enter70 (c : Value) (a : Value) (w : World) : (callFunc 70 (#[a] ++ #[c])).run Tryd.prog w = .ok (.enter 70 (#[a] ++ #[c])) w :=
  Go.MuLone.run_callFunc_enter Tryd.func70 (by kernel_rfl) rfl _ w
theorem works13 (w : World) (hg : ErrType w) (hl : 1 < w.heap.size) : Calls Tryd.prog 16 #[] w fun e w' => e = .returned (.bool true) ∧ Same w w' := by
  have hmf := makeFunc_run
  go_enter Tryd.func16, Tryd.ntmps16
  go_wp2_with fail
  have k0 : Blk (w.alloc (.cells #[.int .i64 0] 3)) w.heap.size #[.int .i64 0] 3 := Blk.new _ _ _
  have m0 : Same w (w.alloc (.cells #[.int .i64 0] 3)) := (Chg.refl _ _).alloc _
  refine (task_new _ 7 69 #[.pointer (some ⟨w.heap.size, 0, none⟩)]).mono ?_
  rintro e W1 ⟨rfl, x1, s1⟩
  simp only [World.size_alloc] at x1
  have k1 := s1.blk k0 (fun x => x)
  have m1 := m0.trans s1
  clear k0 m0 s1
  have hz1 := x1.blk.lt
  go_wp2_with fail
  refine (task_run_value W1 (w.heap.size + 1 + 1) (w.heap.size + 1) 7 _ _ 0 .nilIface x1 (enter69 _) 42 (· = w.heap.size) (fun _ w3 => Blk w3 w.heap.size #[.int .i64 1] 3)
    (fun k e => ⟨by omega, by omega, by omega⟩)
    (fun w1 h1 => (w13f1 _ _ 0 w1 (h1.blk k1 (show ¬ _ = _ by omega)) (by omega)).mono fun e w3 h => h)).mono ?_
  rintro e W2 ⟨rfl, x2, wa, w3, t1, t2, t3, t4⟩
  have k2 : Blk W2 w.heap.size #[.int .i64 1] 3 := t4.blk t3 (by omega)
  have m2 : Same w W2 := ((m1.trans' t1 (fun i hi e => by omega)).trans' t2 (fun i hi e => by omega)).trans' t4 (fun i hi e => by omega)
  have hz2 : W1.heap.size ≤ W2.heap.size := Nat.le_trans (Nat.le_trans t1.size t2.size) t4.size
  clear t1 t2 t3 t4 wa w3 x1 k1 m1
  go_wp2_with fail
  refine (task_run_late W2 _ _ _ _ _ _ _ x2 (by omega)).mono ?_
  rintro e W3 ⟨rfl, s3⟩
  have x3 := x2.chg s3 (fun x => x) (fun x => x)
  have k3 := s3.blk k2 (fun x => x)
  have m3 := m2.trans s3
  have hz3 := s3.size
  clear s3 x2 k2 m2
  go_wp2_with fail
  refine (task_cancel_late W3 _ _ _ _ _ _ _ 1 x3 (by omega) (by omega)).mono ?_
  rintro e W4 ⟨rfl, rfl⟩
  go_wp2_with fail
  refine (task_wait W3 _ _ _ _ _ _ _ x3 (by omega)).mono ?_
  rintro e W4 ⟨rfl, s4⟩
  have x4 := x3.chg s4 (fun x => x) (fun x => x)
  have k4 := s4.blk k3 (fun x => x)
  have m4 := m3.trans s4
  have hz4 := s4.size
  clear s4 x3 k3 m3
  go_wp2_with fail
  refine (task_new _ 8 70 #[.pointer (some ⟨w.heap.size, 0, none⟩)]).mono ?_
  rintro e W5 ⟨rfl, y5, s5⟩
  have x5 := x4.chg s5 (fun x => x) (fun x => x)
  have k5 := s5.blk k4 (fun x => x)
  have m5 := m4.trans s5
  have hz5 := y5.blk.lt
  clear s5 x4 k4 m4
  go_wp2_with fail
  refine (task_new _ 9 71 #[]).mono ?_
  rintro e W6 ⟨rfl, z6, s6⟩
  have x6 := x5.chg s6 (fun x => x) (fun x => x)
  have y6 := y5.chg s6 (fun x => x) (fun x => x)
  have k6 := s6.blk k5 (fun x => x)
  have m6 := m5.trans s6
  have hz6 := z6.blk.lt
  clear s6 x5 y5 k5 m5
  go_wp2_with fail
  refine (task_run_panic W6 _ _ 8 _ _ 0 .nilIface y6 (enter70 _) 2 (.int .i64 1) (by decide) (fun _ => False) (fun _ _ => True)
    (fun k e => e.elim)
    (fun w1 h1 => (w13f2 _ _ 1 w1 (h1.blk k6 (show ¬ _ = _ by omega))).mono fun e w3 ⟨he, hw⟩ => ⟨he, hw ▸ Chg.refl _ _, trivial⟩)).mono ?_
  rintro e W7 ⟨p, rfl, y7, hp, q7, wa, w3, t1, t2, t3, t4⟩
  have u7 : Chg (fun k => k = W4.heap.size + 1 ∨ k = W4.heap.size) W6 W7 := ((t1.mono (fun k _ e => .inr e)).trans (t2.mono (fun k _ e => e.elim))).trans' t4 (fun i hi e => by omega)
  have x7 := x6.chg u7 (by omega) (by omega)
  have z7 := z6.chg u7 (by omega) (by omega)
  have k7 := u7.blk k6 (by omega)
  have m7 := m6.trans' u7 (fun i hi e => by omega)
  have hz7 := u7.size
  have hp7 := q7.lt
  clear t1 t2 t3 t4 wa w3 u7 x6 y6 z6 k6 m6
  go_wp2_with fail
  refine (task_cancel W7 _ _ _ _ _ _ 5 z7 (by omega)).mono ?_
  rintro e W8 ⟨c, rfl, z8, g8, hc, u8⟩
  have x8 := x7.chg u8 (by omega) (by omega)
  have y8 := y7.chg u8 (by omega) (by omega)
  have q8 := u8.blk q7 (by omega)
  have k8 := u8.blk k7 (by omega)
  have m8 := m7.trans' u8 (fun i hi e => by omega)
  have hz8 := u8.size
  have hc8 := g8.lt
  clear u8 x7 y7 z7 q7 k7 m7
  go_wp2_with fail
  refine (task_run_late W8 _ _ _ _ _ _ _ z8 (by omega)).mono ?_
  rintro e W9 ⟨rfl, s9⟩
  have x9 := x8.chg s9 (fun x => x) (fun x => x)
  have y9 := y8.chg s9 (fun x => x) (fun x => x)
  have z9 := z8.chg s9 (fun x => x) (fun x => x)
  have k9 := s9.blk k8 (fun x => x)
  have q9 := s9.blk q8 (fun x => x)
  have g9 := s9.blk g8 (fun x => x)
  have m9 := m8.trans s9
  have hz9 := s9.size
  clear s9 x8 y8 z8 k8 q8 g8 m8
  go_wp2_with fail
  refine (task_wait W9 _ _ _ _ _ _ _ y9 (by omega)).mono ?_
  rintro e W10 ⟨rfl, s10⟩
  go_wp2_with fail
  refine (task_wait W10 _ _ _ _ _ _ _ (z9.chg s10 (fun x => x) (fun x => x)) (by omega)).mono ?_
  rintro e W11 ⟨rfl, s11⟩
  have s12 := s10.trans s11
  have x11 := x9.chg s12 (fun x => x) (fun x => x)
  have y11 := y9.chg s12 (fun x => x) (fun x => x)
  have k11 := s12.blk k9 (fun x => x)
  have q11 := s12.blk q9 (fun x => x)
  have g11 := s12.blk g9 (fun x => x)
  have m11 := m9.trans s12
  have hz11 := s12.size
  have hg11 := hg.same m11 hl
  clear s10 s11 s12 x9 y9 z9 k9 q9 g9 m9
  have c11 := k11.cellAt 0 (v := .int .i64 1) rfl
  go_wp2_with fail
  refine (class_any (l := []) (B := some (.panicked (.iface 2 (.int .i64 1)))) W11 ⟨p, rfl, q11⟩ hg11 (by omega)).mono ?_
  rintro e W12 ⟨rfl, s12⟩
  simp only [clsOf, Base.cls]
  go_wp2_with fail
  refine (class_any (l := []) (B := some (.cancelled 5)) W12 ⟨c, rfl, s12.blk g11 (fun x => x)⟩ (hg11.same s12 (by omega)) (by have := s12.size; omega)).mono ?_
  rintro e W13 ⟨rfl, s13⟩
  simp only [clsOf, Base.cls]
  have s14 := s12.trans s13
  go_wp2_with fail
  refine (task_state W13 _ _ _ _ _ _ _ (x11.chg s14 (fun x => x) (fun x => x))).mono ?_
  rintro e W14 ⟨rfl, rfl⟩
  go_wp2_with fail
  refine (task_state W13 _ _ _ _ _ _ _ (y11.chg s14 (fun x => x) (fun x => x))).mono ?_
  rintro e W14 ⟨rfl, rfl⟩
  go_wp2_with fail
  go_ret
  exact ⟨rfl, m11.trans s14⟩
end Go.Proofs.YtgdjbfcdkibdbaaDoor
