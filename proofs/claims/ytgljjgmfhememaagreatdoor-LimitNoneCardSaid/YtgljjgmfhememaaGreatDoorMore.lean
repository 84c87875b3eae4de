/- More of blocks and cells. Conditions: none. -/
import Derived.Test.YtgljjgmfhememaaGreatDoorCell
namespace Go.Proofs.YtgljjgmfhememaaGreatDoor
open Go Go.RowKit
theorem Blk.neww {w : World} {n : Nat} (hn : n = w.heap.size) (cs : Array Value) (T : TypeId) : Blk (w.alloc (.cells cs T)) n cs T := hn ▸ Blk.new w cs T
theorem CellAt.dr {w : World} {b : Nat} {v : Int} (h : CellAt w b v) : CellAt w.drew b v := h
theorem CellAt.drN {w : World} {b : Nat} {v : Int} (h : CellAt w b v) (n : Nat) : CellAt (w.drewN n) b v := h
theorem CellAt.al {w : World} {b : Nat} {v : Int} (h : CellAt w b v) (o : Obj) : CellAt (w.alloc o) b v := Blk.alloc h o
theorem CellAt.set_other {w : World} {b : Nat} {v : Int} (h : CellAt w b v) {a : Addr} (hb : a.block ≠ b) (x : Value) : CellAt (w.setCell a x) b v := Blk.set_other h hb x
theorem Blk.ne {w : World} {b c : Nat} {cs cs' : Array Value} {T T' : TypeId} (h : Blk w b cs T) (k : Blk w c cs' T') (hT : T ≠ T') : b ≠ c := by
  rintro rfl
  unfold Blk at h k
  rw [h] at k
  cases k
  exact hT rfl
end Go.Proofs.YtgljjgmfhememaaGreatDoor
