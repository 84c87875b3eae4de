/- list.List of functions with a nil thread, one goroutine: New, made. Conditions: none. -/
import Derived.Test.YtgljjgmfhememaaGreatDoorCatch
import Derived.Test.YtgljjgmfhememaaGreatDoorMore
import Derived.Deep.RegionWith
namespace Go.Proofs.YtgljjgmfhememaaGreatDoor
open Go Go.RowKit
set_option maxRecDepth 100000
set_option maxHeartbeats 1000000
/-- 65 places, all zero. -/
def fpl0 : Array Value := ((List.replicate 65 [Value.nilFunc, .int .i64 0]).flatten).toArray
theorem fmake (w : World) : (Instr.makeSlice 224 (.int .i64 (IntKind.i64.wrap 65)) (.int .i64 (IntKind.i64.wrap 65))).run Tryz.prog w = .ok (.slice (some ⟨w.heap.size, 0, none⟩) 65 65) (w.alloc (.cells fpl0 304)) := by kernel_rfl
structure FList (w : World) (b lb hb pb : Nat) (last head : Int) (pl : Array Value) : Prop where
  blk : Blk w b #[.pointer (some ⟨lb, 0, none⟩), .pointer (some ⟨hb, 0, none⟩), .slice (some ⟨pb, 0, none⟩) 65 65] 226
  clast : CellAt w lb last
  chead : CellAt w hb head
  places : Blk w pb pl 304
  size : pl.size = 130
  ne : lb ≠ hb
theorem FList.chg {S : Nat → Prop} {w w' : World} {b lb hb pb : Nat} {last head : Int} {pl : Array Value} (h : FList w b lb hb pb last head pl) (hc : Chg S w w') (h1 : ¬ S b) (h2 : ¬ S lb) (h3 : ¬ S hb) (h4 : ¬ S pb) : FList w' b lb hb pb last head pl :=
  ⟨hc.blk h.blk h1, hc.blk h.clast h2, hc.blk h.chead h3, hc.blk h.places h4, h.size, h.ne⟩
theorem flist_made (w : World) (b : Nat) (cs : Array Value) (hb : Nat) (h : Blk w b cs 226) (h1 : cs[1]? = some (.pointer (some ⟨hb, 0, none⟩))) : Calls Tryz.prog 183 #[.pointer (some ⟨b, 0, none⟩)] w fun e w' => e = .returned (.bool true) ∧ w = w' := by
  have c1 := h.cellAt 1 h1
  clear h h1
  go_enter Tryz.func183, Tryz.ntmps183
  go_wp2
  go_ret
  exact ⟨rfl, rfl⟩
def FNew (w : World) (e : Ending) (w' : World) : Prop := ∃ b lb hb pb, e = .returned (.pointer (some ⟨b, 0, none⟩)) ∧ FList w' b lb hb pb 0 0 fpl0 ∧ w.heap.size ≤ b ∧ w.heap.size ≤ lb ∧ w.heap.size ≤ hb ∧ w.heap.size ≤ pb ∧ Same w w'
theorem FNew.done {w W : World} {b lb hb pb : Nat} (h1 : Blk W b #[.pointer (some ⟨lb, 0, none⟩), .pointer (some ⟨hb, 0, none⟩), .slice (some ⟨pb, 0, none⟩) 65 65] 226) (h2 : CellAt W lb 0) (h3 : CellAt W hb 0) (h4 : Blk W pb fpl0 304) (h5 : lb ≠ hb ∧ w.heap.size ≤ b ∧ w.heap.size ≤ lb ∧ w.heap.size ≤ hb ∧ w.heap.size ≤ pb) (h6 : Same w W) : FNew w (.returned (.pointer (some ⟨b, 0, none⟩))) W :=
  ⟨b, lb, hb, pb, rfl, ⟨h1, h2, h3, h4, by kernel_rfl, h5.1⟩, h5.2.1, h5.2.2.1, h5.2.2.2.1, h5.2.2.2.2, h6⟩
theorem flist_new (w : World) : Calls Tryz.prog 53 #[.int .i64 64] w (FNew w) := by
  have hm := fmake
  go_enter Tryz.func53, Tryz.ntmps53
  go_wp2_with fail
  go_region_with (go_at_call 29; refine (cell_new _ _).mono ?_; rintro e w' ⟨rfl, rfl⟩)
  all_goals go_wp2_with fail
  all_goals go_ret
  all_goals refine FNew.done (Blk.drew (Blk.neww (by simp) _ _)) ?_ ?_ ?_ ?_ ?_
  all_goals first | omega | skip
  all_goals first | (exact Chg.drew (Chg.alloc (Chg.alloc (Chg.alloc (Chg.alloc (Chg.refl _ _) _) _) _) _)) | skip
  all_goals (try unfold CellAt)
  all_goals (refine Blk.drew ?_; repeat' (first | (refine Blk.neww ?_ _ _; simp; done) | refine Blk.alloc ?_ _))
end Go.Proofs.YtgljjgmfhememaaGreatDoor
