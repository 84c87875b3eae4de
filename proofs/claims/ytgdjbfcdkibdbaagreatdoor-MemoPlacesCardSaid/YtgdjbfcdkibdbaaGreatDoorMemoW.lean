/- treadlelaw15.works, its pieces. Conditions: none. -/
import Derived.Test.YtgdjbfcdkibdbaaGreatDoorMemoE
namespace Go.Proofs.YtgdjbfcdkibdbaaGreatDoor
open Go Go.RowKit
set_option maxRecDepth 100000
set_option maxHeartbeats 2000000
theorem wbuild_nil (W : World) (bb kb eb : Nat) (j key : Int) (hb : Blk W bb #[.int .i64 j] 3) (hk : Blk W kb #[.int .i64 key] 2) (he : Blk W eb #[.nilIface] 31) (h0 : 0 ≤ j) (h1 : j ≤ 100) (h2 : 0 ≤ key) (h3 : key ≤ 100) :
    Calls Tryz.prog 74 #[.pointer none, .pointer (some ⟨bb, 0, none⟩), .pointer (some ⟨kb, 0, none⟩), .pointer (some ⟨eb, 0, none⟩)] W fun e W' => e = .returned (.tuple #[.int .i64 (10 * key), .nilIface]) ∧ Chg (· = bb) W W' ∧ Blk W' bb #[.int .i64 (j + 1)] 3 := by
  have n1 : ¬ kb = bb := hk.ne hb (by decide)
  have n2 : ¬ eb = bb := he.ne hb (by decide)
  have c0 := hb.cellAt 0 (v := .int .i64 j) rfl
  have f0 := hb.free 0
  have c1 := (hk.set_other (a := ⟨bb, 0, none⟩) (Ne.symm n1) (.int .i64 (j + 1))).cellAt 0 (v := .int .i64 key) rfl
  have c2 := (he.set_other (a := ⟨bb, 0, none⟩) (Ne.symm n2) (.int .i64 (j + 1))).cellAt 0 (v := .nilIface) rfl
  have g : Chg (fun k => k = bb) W (W.setCell ⟨bb, 0, none⟩ (.int .i64 (j + 1))) := Chg.setCell (S := fun k => k = bb) (p := ⟨bb, 0, none⟩) (Chg.refl _ _) (.inl rfl) _
  have b' := hb.set 0 (.int .i64 (j + 1))
  clear hb hk he
  go_enter Tryz.func74, Tryz.ntmps74
  go_wp2_with fail
  go_quiet (fail)
  go_wp2_with fail
  go_ret2
  exact ⟨rfl, g.drewN _, Blk.drewN (by simpa using b') _⟩
theorem wbuild_err (W : World) (bb kb eb : Nat) (j key : Int) (E : TypeId) (y : Value) (hb : Blk W bb #[.int .i64 j] 3) (hk : Blk W kb #[.int .i64 key] 2) (he : Blk W eb #[.iface E y] 31) (h0 : 0 ≤ j) (h1 : j ≤ 100) (h2 : 0 ≤ key) (h3 : key ≤ 100) :
    Calls Tryz.prog 74 #[.pointer none, .pointer (some ⟨bb, 0, none⟩), .pointer (some ⟨kb, 0, none⟩), .pointer (some ⟨eb, 0, none⟩)] W fun e W' => e = .returned (.tuple #[.int .i64 (10 * key), .iface E y]) ∧ Chg (· = bb) W W' ∧ Blk W' bb #[.int .i64 (j + 1)] 3 := by
  have n1 : ¬ kb = bb := hk.ne hb (by decide)
  have n2 : ¬ eb = bb := he.ne hb (by decide)
  have c0 := hb.cellAt 0 (v := .int .i64 j) rfl
  have f0 := hb.free 0
  have c1 := (hk.set_other (a := ⟨bb, 0, none⟩) (Ne.symm n1) (.int .i64 (j + 1))).cellAt 0 (v := .int .i64 key) rfl
  have c2 := (he.set_other (a := ⟨bb, 0, none⟩) (Ne.symm n2) (.int .i64 (j + 1))).cellAt 0 (v := .iface E y) rfl
  have g : Chg (fun k => k = bb) W (W.setCell ⟨bb, 0, none⟩ (.int .i64 (j + 1))) := Chg.setCell (S := fun k => k = bb) (p := ⟨bb, 0, none⟩) (Chg.refl _ _) (.inl rfl) _
  have b' := hb.set 0 (.int .i64 (j + 1))
  clear hb hk he
  go_enter Tryz.func74, Tryz.ntmps74
  go_wp2_with fail
  go_quiet (fail)
  go_wp2_with fail
  go_ret2
  exact ⟨rfl, g.drewN _, Blk.drewN (by simpa using b') _⟩
/-- The function get of works, whatever Get answers. -/
theorem wget (W : World) (key : Int) (x : Value) (mb bb m : Nat) (hx : x = .nilIface ∨ ∃ E y, x = .iface E y) (hm : Blk W mb #[.pointer (some ⟨m, 0, none⟩)] 23) (v y z : Value) (Q : World → Prop)
    (hG : ∀ W', Same W W' → Blk W' W.heap.size #[.int .i64 key] 2 → Blk W' (W.heap.size + 1) #[x] 31 → Calls Tryz.prog 15 #[.pointer (some ⟨m, 0, none⟩), .pointer none, .int .i64 key, .func (.func 74) #[] #[.pointer (some ⟨bb, 0, none⟩), .pointer (some ⟨W.heap.size, 0, none⟩), .pointer (some ⟨W.heap.size + 1, 0, none⟩)]] W' fun e W'' => e = .returned (.tuple #[v, y, z]) ∧ Q W'') :
    Calls Tryz.prog 73 #[.int .i64 key, x, .pointer (some ⟨mb, 0, none⟩), .pointer (some ⟨bb, 0, none⟩)] W fun e W'' => e = .returned (.tuple #[v, y, z]) ∧ Q W'' := by
  have hmf := makeFunc_run
  rcases hx with rfl | ⟨E, u, rfl⟩
  · have c0 := ((hm.alloc (.cells #[.int .i64 key] 2)).alloc (.cells #[.nilIface] 31)).cellAt 0 (v := .pointer (some ⟨m, 0, none⟩)) rfl
    have HG := Lib.hid hG
    clear hG hm
    go_enter Tryz.func73, Tryz.ntmps73
    go_wp2_with fail
    refine (HG.out _ (((Chg.refl _ _).alloc _).alloc _) ((Blk.new _ _ _).alloc _) (Blk.neww (by simp) _ _)).mono ?_
    rintro e W' ⟨rfl, hq⟩
    have HQ := Lib.hid hq
    clear hq
    go_wp2_with fail
    go_ret3
    exact ⟨rfl, HQ.out⟩
  · have c0 := ((hm.alloc (.cells #[.int .i64 key] 2)).alloc (.cells #[.iface E u] 31)).cellAt 0 (v := .pointer (some ⟨m, 0, none⟩)) rfl
    have HG := Lib.hid hG
    clear hG hm
    go_enter Tryz.func73, Tryz.ntmps73
    go_wp2_with fail
    refine (HG.out _ (((Chg.refl _ _).alloc _).alloc _) ((Blk.new _ _ _).alloc _) (Blk.neww (by simp) _ _)).mono ?_
    rintro e W' ⟨rfl, hq⟩
    have HQ := Lib.hid hq
    clear hq
    go_wp2_with fail
    go_ret3
    exact ⟨rfl, HQ.out⟩
end Go.Proofs.YtgdjbfcdkibdbaaGreatDoor
