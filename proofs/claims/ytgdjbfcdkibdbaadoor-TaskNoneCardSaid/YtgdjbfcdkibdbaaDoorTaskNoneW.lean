/- treadlelaw13.TaskNone, walked. Conditions: errors.errorType holds what the program lays. -/
import Derived.Test.YtgdjbfcdkibdbaaDoorWorks13
namespace Go.Proofs.YtgdjbfcdkibdbaaDoor
open Go Go.RowKit
set_option maxRecDepth 100000
set_option maxHeartbeats 2000000
theorem tn1 (t : Value) (c : Nat) (n : Int) (w : World) (h : Blk w c #[.int .i64 n] 2) : Calls Tryd.prog 15 #[t, .pointer (some ⟨c, 0, none⟩)] w fun e w' => e = .returned (.tuple #[.int .i64 n, .nilIface]) ∧ w = w' := by
  have c0 := h.cellAt 0 (v := .int .i64 n) rfl
  go_enter Tryd.func15, Tryd.ntmps15
  go_wp2
  go_ret2
  exact ⟨rfl, rfl⟩
theorem enter15 (c : Value) (a : Value) (w : World) : (callFunc 15 (#[a] ++ #[c])).run Tryd.prog w = .ok (.enter 15 (#[a] ++ #[c])) w :=
  Go.MuLone.run_callFunc_enter Tryd.func15 (by kernel_rfl) rfl _ w
theorem taskNone_law (n r : Int) (w : World) (hg : ErrType w) (hl : 1 < w.heap.size) : Calls Tryd.prog 3 #[.int .i64 n, .int .i64 r] w fun e w' => e = .returned (.bool true) ∧ Same w w' := by
  have hmf := makeFunc_run
  have n1 : ∀ w, NoTask w none := fun _ => .inl rfl
  go_enter Tryd.func3, Tryd.ntmps3
  go_wp2_with fail
  have k1 : Blk ((w.alloc (.cells #[.int .i64 n] 2)).alloc (.cells #[.int .i64 0, .pointer none, .nilFunc, .pointer none, .int .i64 0, .nilIface] 29)) w.heap.size #[.int .i64 n] 2 := (Blk.new _ _ _).alloc _
  have t1 : NoTask ((w.alloc (.cells #[.int .i64 n] 2)).alloc (.cells #[.int .i64 0, .pointer none, .nilFunc, .pointer none, .int .i64 0, .nilIface] 29)) (some ⟨w.heap.size + 1, 0, none⟩) := .inr ⟨_, _, rfl, Blk.new' (by simp) _ _, rfl⟩
  have m1 : Same w ((w.alloc (.cells #[.int .i64 n] 2)).alloc (.cells #[.int .i64 0, .pointer none, .nilFunc, .pointer none, .int .i64 0, .nilIface] 29)) := ((Chg.refl _ _).alloc _).alloc _
  generalize (w.alloc (.cells #[.int .i64 n] 2)).alloc (.cells #[.int .i64 0, .pointer none, .nilFunc, .pointer none, .int .i64 0, .nilIface] 29) = W1 at *
  have hz1 := m1.size
  refine (task_none_wait W1 _ (n1 _)).mono ?_
  rintro e W2 ⟨rfl, rfl⟩
  go_wp2_with fail
  refine (task_none_wait W1 _ t1).mono ?_
  rintro e W2 ⟨rfl, rfl⟩
  go_wp2_with fail
  refine (task_none_run W1 _ (n1 _)).mono ?_
  rintro e W2 ⟨rfl, s2⟩
  have t2 := t1.same s2
  go_wp2_with fail
  refine (task_none_run W2 _ t2).mono ?_
  rintro e W3 ⟨rfl, s3⟩
  have t3 := t2.same s3
  have s13 := s2.trans s3
  have k3 := s13.blk k1 (fun x => x)
  have m3 := m1.trans s13
  have hz3 := s13.size
  clear s2 s3 s13 t1 t2 k1 m1
  go_wp2_with fail
  refine (task_none_cancel W3 _ r (n1 _)).mono ?_
  rintro e W4 ⟨rfl, rfl⟩
  go_wp2_with fail
  refine (task_none_cancel W3 _ r t3).mono ?_
  rintro e W4 ⟨rfl, rfl⟩
  go_wp2_with fail
  refine (task_none_state W3 _ (n1 _)).mono ?_
  rintro e W4 ⟨rfl, rfl⟩
  go_wp2_with fail
  refine (task_none_state W3 _ t3).mono ?_
  rintro e W4 ⟨rfl, rfl⟩
  go_wp2_with fail
  refine (task_none_number W3 _ (n1 _)).mono ?_
  rintro e W4 ⟨rfl, rfl⟩
  go_wp2_with fail
  refine (task_none_number W3 _ t3).mono ?_
  rintro e W4 ⟨rfl, rfl⟩
  go_wp2_with fail
  have hg3 := hg.same m3 hl
  refine (class_any (l := []) (B := some (.errno 2)) W3 rfl hg3 (by omega)).mono ?_
  rintro e W4 ⟨rfl, s4⟩
  simp only [clsOf, Base.cls]
  go_wp2_with fail
  refine (class_any (l := []) (B := some (.errno 2)) W4 rfl (hg3.same s4 (by omega)) (by have := s4.size; omega)).mono ?_
  rintro e W5 ⟨rfl, s5⟩
  simp only [clsOf, Base.cls]
  have k5 := (s4.trans s5).blk k3 (fun x => x)
  have m5 := m3.trans (s4.trans s5)
  have hz5 := (s4.trans s5).size
  have c5 := k5.cellAt 0 (v := .int .i64 n) rfl
  clear s4 s5 t3 k3 m3 hg3
  go_wp2_with fail
  refine (task_new _ n 15 #[.pointer (some ⟨w.heap.size, 0, none⟩)]).mono ?_
  rintro e W6 ⟨rfl, x6, s6⟩
  have k6 := s6.blk k5 (fun x => x)
  have m6 := m5.trans s6
  have hz6 := x6.blk.lt
  have c6 := k6.cellAt 0 (v := .int .i64 n) rfl
  have hk := k5.lt
  clear s6 k5 m5 c5
  go_wp2_with fail
  go_quiet ((first | (go_at_call 12; exact quiet_left (task_number _ _ _ _ _ _ _ _ (x6.chg (S := fun _ => False) ((Chg.refl _ _).drewN _) (fun x => x) (fun x => x)))) | (go_at_call 14; exact quiet_left (task_new_nil _ _))))
  have m7 := m6.drewN nq
  have x7 := x6.chg (S := fun _ => False) ((Chg.refl _ _).drewN nq) (fun x => x) (fun x => x)
  have k7 := k6.drewN nq
  generalize W6.drewN nq = W7 at *
  have hz7 := m7.size
  clear x6 k6 m6 c6
  by_cases hr : r < 1
  · have d1 : decide (r < 1) = true := by simpa using hr
    have d2 : decide (r ≥ 1) = false := by simp; omega
    go_wp2_with fail
    refine (task_cancel_low W7 _ _ _ _ _ _ _ r x7 hr).mono ?_
    rintro e W8 ⟨rfl, rfl⟩
    go_wp2_with fail
    refine (task_run_value W7 _ _ n _ _ 0 .nilIface x7 (enter15 _) n (fun _ => False) (fun _ _ => True) (fun k e => e.elim)
      (fun w1 h1 => (tn1 _ _ n w1 (h1.blk k7 (by omega))).mono fun e w3 ⟨he, hw⟩ => ⟨he, hw ▸ Chg.refl _ _, trivial⟩)).mono ?_
    rintro e W8 ⟨rfl, x8, wa, w3, t1, t2, t3, t4⟩
    have m8 : Same w W8 := ((m7.trans' t1 (fun i hi e => by omega)).trans' t2 (fun i hi e => e)).trans' t4 (fun i hi e => by omega)
    clear t1 t2 t3 t4 wa w3 x7 k7 m7
    go_wp2_with fail
    refine (works13 W8 (hg.same m8 hl) (by have := m8.size; omega)).mono ?_
    rintro e W9 ⟨rfl, s9⟩
    go_wp2_with fail
    go_ret
    exact ⟨rfl, m8.trans s9⟩
  · have d1 : decide (r < 1) = false := by simpa using hr
    have d2 : decide (r ≥ 1) = true := by simp; omega
    go_wp2_with fail
    refine (task_cancel W7 _ _ _ _ _ _ r x7 (by omega)).mono ?_
    rintro e W8 ⟨c, rfl, x8, g8, hc, u8⟩
    have m8 : Same w W8 := m7.trans' u8 (fun i hi e => by omega)
    clear m7 x7 k7 u8
    go_wp2_with fail
    refine (task_run_late W8 _ _ _ _ _ _ _ x8 (by omega)).mono ?_
    rintro e W9 ⟨rfl, s9⟩
    have m9 := m8.trans s9
    go_wp2_with fail
    refine (works13 W9 (hg.same m9 hl) (by have := m9.size; omega)).mono ?_
    rintro e W10 ⟨rfl, s10⟩
    go_wp2_with fail
    go_ret
    exact ⟨rfl, m9.trans s10⟩
end Go.Proofs.YtgdjbfcdkibdbaaDoor
