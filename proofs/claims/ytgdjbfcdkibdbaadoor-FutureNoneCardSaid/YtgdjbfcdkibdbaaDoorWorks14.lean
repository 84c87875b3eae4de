/- treadlelaw14.works answers true and leaves all memory as it was. Conditions: none. -/
import Derived.Test.YtgdjbfcdkibdbaaDoorFutM
namespace Go.Proofs.YtgdjbfcdkibdbaaDoor
open Go Go.RowKit
set_option maxRecDepth 100000
set_option maxHeartbeats 1000000
theorem works14_f (w : World) (sb : Nat) (n v : Int) (x : Value) (h : Blk w sb #[.int .i64 n] 2) : Calls Tryd.prog 92 #[.pointer none, .int .i64 v, x, .pointer (some ⟨sb, 0, none⟩)] w fun e w' => e = .returned (.tuple #[]) ∧ Chg (· = sb) w w' ∧ Blk w' sb #[.int .i64 (wrap64 (wrap64 (10 * n) + v))] 2 := by
  have c0 := h.cellAt 0 (v := .int .i64 n) rfl
  have z0 := h.free 0
  go_enter Tryd.func92, Tryd.ntmps92
  go_wp2_with fail
  go_end0
  refine ⟨rfl, ?_, ?_⟩
  · exact set_chg _ _ _
  · have := h.set 0 (.int .i64 (wrap64 (wrap64 (10 * n) + v)))
    simpa [wrap64, IntKind.wrap_i64] using this
theorem works14_f0 (w : World) (sb : Nat) (x : Value) (h : Blk w sb #[.int .i64 0] 2) : Calls Tryd.prog 92 #[.pointer none, .int .i64 5, x, .pointer (some ⟨sb, 0, none⟩)] w fun e w' => e = .returned (.tuple #[]) ∧ Chg (· = sb) w w' ∧ Blk w' sb #[.int .i64 5] 2 := by
  have e : wrap64 (wrap64 (10 * 0) + 5) = 5 := by kernel_rfl
  have := works14_f w sb 0 5 x h
  rwa [e] at this
theorem works14_f1 (w : World) (sb : Nat) (x : Value) (h : Blk w sb #[.int .i64 5] 2) : Calls Tryd.prog 92 #[.pointer none, .int .i64 5, x, .pointer (some ⟨sb, 0, none⟩)] w fun e w' => e = .returned (.tuple #[]) ∧ Chg (· = sb) w w' ∧ Blk w' sb #[.int .i64 55] 2 := by
  have e : wrap64 (wrap64 (10 * 5) + 5) = 55 := by kernel_rfl
  have := works14_f w sb 5 5 x h
  rwa [e] at this
theorem works14_g (w : World) : Maps w 93 #[] 5 6 := by
  intro w1 _
  go_enter Tryd.func93, Tryd.ntmps93
  go_wp2_with fail
  go_ret2
  exact ⟨rfl, Chg.refl _ _⟩
theorem makeFunc92 (w : World) (a : Addr) : (Instr.makeFunc (.func 92) #[] #[.pointer (some a)]).run Tryd.prog w = .ok (.func (.func 92) #[] #[.pointer (some a)]) w := by kernel_rfl
theorem works14 (w : World) : Calls Tryd.prog 58 #[] w fun e w' => e = .returned (.bool true) ∧ Same w w' := by
  have hm := makeFunc92
  go_enter Tryd.func58, Tryd.ntmps58
  go_wp2_with fail
  refine (fut_new w).mono ?_
  rintro e w1 ⟨b, s, l, lb, hb, pb, rfl, h1, z1, z2, z3, z4, z5, z6, s1⟩
  go_wp2_with fail
  have hlt := h1.lt
  have k2 : Blk (w1.alloc (.cells #[.int .i64 0] 2)) w1.heap.size #[.int .i64 0] 2 := Blk.new _ _ _
  have s2 : Same w1 (w1.alloc (.cells #[.int .i64 0] 2)) := (Chg.refl _ _).alloc _
  have h2 := h1.chg s2 (fun x => x) (fun x => x) (fun x => x) (fun x => x) (fun x => x) (fun x => x)
  have m2 := s1.trans s2
  generalize w1.alloc (.cells #[.int .i64 0] 2) = w2 at *
  generalize w1.heap.size = sb at *
  clear h1 s1 s2
  refine (fut_then_add h2 92 #[.pointer (some ⟨sb, 0, none⟩)]).mono ?_
  rintro e w3 ⟨rfl, h3, g3⟩
  have k3 := g3.blk k2 (by omega)
  have m3 : Same w w3 := m2.trans' g3 (fun i hi e => by omega)
  clear h2 k2 g3 m2
  go_wp2_with fail
  refine (fut_complete_one 5 92 #[.pointer (some ⟨sb, 0, none⟩)] (· = sb) (fun W => Blk W sb #[.int .i64 5] 2) h3 (by kernel_rfl) (by kernel_rfl) (fun _ _ _ _ => by kernel_rfl) (by omega) (fun k e => e ▸ k3.lt) (fun w4 h4 => works14_f0 w4 sb .nilIface (h4.blk k3 (by omega)))).mono ?_
  rintro e w4 ⟨rfl, h4, k4, g4⟩
  have m4 : Same w w4 := m3.trans' g4 (fun i hi e => by omega)
  clear m3 g4 h3 k3
  go_wp2_with fail
  refine (fut_complete_no h4 (by decide) 6 .nilIface).mono ?_
  rintro e w5 ⟨rfl, rfl⟩
  go_wp2_with fail
  refine (fut_then_done h4 92 #[.pointer (some ⟨sb, 0, none⟩)] (· = sb) (fun W => Blk W sb #[.int .i64 55] 2) (fun _ _ _ _ => by kernel_rfl) (by omega) (fun w5 h5 => works14_f1 w5 sb .nilIface (h5.blk k4 (fun x => x)))).mono ?_
  rintro e w5 ⟨rfl, k5, g5⟩
  have h5 := h4.chg g5 (by omega) (by omega) (by omega) (by omega) (by omega) (by omega)
  have m5 : Same w w5 := m4.trans' g5 (fun i hi e => by omega)
  clear m4 g5 h4 k4
  go_wp2_with fail
  refine (fut_await h5 (by decide)).mono ?_
  rintro e w6 ⟨rfl, s6⟩
  have h6 := h5.chg s6 (fun x => x) (fun x => x) (fun x => x) (fun x => x) (fun x => x) (fun x => x)
  have k6 := s6.blk k5 (fun x => x)
  have m6 := m5.trans s6
  clear h5 k5 m5 s6
  go_wp2_with fail
  refine (fut_map_done 93 #[] 6 h6 (fun _ _ => by kernel_rfl) (works14_g _) (fun _ => by kernel_rfl)).mono ?_
  rintro e w7 ⟨b', s', l', lb', hb', pb', pl', rfl, h7, _, _, _, _, _, _, s7⟩
  have k7 := s7.blk k6 (fun x => x)
  have m7 := m6.trans s7
  clear h6 k6 m6 s7
  go_wp2_with fail
  refine (fut_peek h7 (by decide)).mono ?_
  rintro e w8 ⟨rfl, s8⟩
  have k8 := s8.blk k7 (fun x => x)
  have m8 := m7.trans s8
  have c8 := k8.cellAt 0 (v := .int .i64 55) rfl
  clear h7 k7 m7 s8
  go_wp2_with fail
  go_ret
  exact ⟨rfl, m8⟩
end Go.Proofs.YtgdjbfcdkibdbaaDoor
