/- Package token with a nil thread: New, Child, OnCancel, Reason. Conditions: none. -/
import Derived.Test.YtgljjgmfhememaaGreatDoorTokB
import Derived.Test.YtgljjgmfhememaaGreatDoorJoinA
namespace Go.Proofs.YtgljjgmfhememaaGreatDoor
open Go Go.RowKit
set_option maxRecDepth 100000
set_option maxHeartbeats 2000000
theorem TokAt.ne {w : World} {b s l lb hb pb : Nat} {reason last head depth : Int} {pl : Array Value} (h : TokAt w b s l lb hb pb reason last head pl depth) :
    b ≠ s ∧ b ≠ l ∧ b ≠ lb ∧ b ≠ hb ∧ b ≠ pb ∧ s ≠ l ∧ s ≠ lb ∧ s ≠ hb ∧ s ≠ pb ∧ l ≠ lb ∧ l ≠ hb ∧ l ≠ pb ∧ lb ≠ hb ∧ lb ≠ pb ∧ hb ≠ pb :=
  ⟨h.blk.ne h.cell (by decide), h.blk.ne h.list.blk (by decide), h.blk.ne h.list.clast (by decide), h.blk.ne h.list.chead (by decide), h.blk.ne h.list.places (by decide),
   h.cell.ne h.list.blk (by decide), h.n1, h.n2, h.cell.ne h.list.places (by decide), h.list.blk.ne h.list.clast (by decide), h.list.blk.ne h.list.chead (by decide), h.list.blk.ne h.list.places (by decide), h.list.ne, h.list.clast.ne h.list.places (by decide), h.list.chead.ne h.list.places (by decide)⟩
theorem TokAt.lt {w : World} {b s l lb hb pb : Nat} {reason last head depth : Int} {pl : Array Value} (h : TokAt w b s l lb hb pb reason last head pl depth) :
    b < w.heap.size ∧ s < w.heap.size ∧ l < w.heap.size ∧ lb < w.heap.size ∧ hb < w.heap.size ∧ pb < w.heap.size :=
  ⟨h.blk.lt, h.cell.lt, h.list.blk.lt, h.list.clast.lt, h.list.chead.lt, h.list.places.lt⟩
/-- A token's blocks. -/
structure TR where
  b : Nat
  s : Nat
  l : Nat
  lb : Nat
  hb : Nat
  pb : Nat
def TR.has (r : TR) (k : Nat) : Prop := k = r.b ∨ k = r.s ∨ k = r.l ∨ k = r.lb ∨ k = r.hb ∨ k = r.pb
def Tok (w : World) (r : TR) (reason last head : Int) (pl : Array Value) (depth : Int) : Prop := TokAt w r.b r.s r.l r.lb r.hb r.pb reason last head pl depth
theorem Tok.chg {S : Nat → Prop} {w w' : World} {r : TR} {reason last head depth : Int} {pl : Array Value} (h : Tok w r reason last head pl depth) (hc : Chg S w w') (hn : ∀ k, r.has k → ¬ S k) : Tok w' r reason last head pl depth :=
  TokAt.chg h hc (hn _ (.inl rfl)) (hn _ (.inr (.inl rfl))) (hn _ (.inr (.inr (.inl rfl)))) (hn _ (.inr (.inr (.inr (.inl rfl))))) (hn _ (.inr (.inr (.inr (.inr (.inl rfl)))))) (hn _ (.inr (.inr (.inr (.inr (.inr rfl))))))
theorem Tok.lt {w : World} {r : TR} {reason last head depth : Int} {pl : Array Value} (h : Tok w r reason last head pl depth) : ∀ k, r.has k → k < w.heap.size := by
  have := TokAt.lt h
  intro k hk
  unfold TR.has at hk
  omega
theorem tok_new (w : World) : Calls Tryz.prog 20 #[] w fun e w' => ∃ r : TR, e = .returned (.pointer (some ⟨r.b, 0, none⟩)) ∧ Tok w' r 0 0 0 epl0 0 ∧ (∀ k, r.has k → w.heap.size ≤ k) ∧ Same w w' := by
  go_enter Tryz.func20, Tryz.ntmps20
  go_wp2_with (first | (go_at_call 29; refine (cell_new _ _).mono ?_; rintro e w' ⟨rfl, rfl⟩))
  have hs := CellAt.new w 0
  have hc : Same w (w.alloc (.cells #[.int .i64 0, .bool true, .int .i32 0, .int .u32 0, .chan none] 173)) := (Chg.refl _ _).alloc _
  have hz : (w.alloc (.cells #[.int .i64 0, .bool true, .int .i32 0, .int .u32 0, .chan none] 173)).heap.size = w.heap.size + 1 := by simp
  generalize w.alloc (.cells #[.int .i64 0, .bool true, .int .i32 0, .int .u32 0, .chan none] 173) = w1 at *
  have HZ := Lib.hid hz
  clear hz
  refine (elist_new w1).mono ?_
  rintro e w2 ⟨l, lb, hb, pb, rfl, h1, g1, g2, g3, g4, hc2⟩
  have hz := HZ.out
  have hs2 := hs.chg hc2 (fun x => x)
  have hsz := hc2.size
  have HH := Lib.hid (And.intro hs2 (And.intro h1 (And.intro hc2 hc)))
  have HG : Hid (w1.heap.size ≤ l ∧ w1.heap.size ≤ lb ∧ w1.heap.size ≤ hb ∧ w1.heap.size ≤ pb ∧ w1.heap.size ≤ w2.heap.size ∧ w1.heap.size = w.heap.size + 1) := Lib.hid ⟨g1, g2, g3, g4, hsz, hz⟩
  clear hs hs2 h1 hc2 hc g1 g2 g3 g4 hsz hz HZ
  go_wp2_with fail
  go_ret
  obtain ⟨hs2, h1, hc2, hc⟩ := HH.out
  have hg := HG.out
  refine ⟨⟨w2.heap.size, w.heap.size, l, lb, hb, pb⟩, rfl, ⟨Blk.neww rfl _ _, hs2.al _, h1.chg (S := fun _ => False) ((Chg.refl _ _).alloc _) (fun x => x) (fun x => x) (fun x => x) (fun x => x), by simp only; omega, by simp only; omega⟩, ?_, (hc.trans hc2).alloc _⟩
  intro k hk
  unfold TR.has at hk
  simp only at hk
  omega
variable {w : World} {r : TR} {reason last head depth : Int} {pl : Array Value}
theorem tok_reason (h : Tok w r reason last head pl depth) : Calls Tryz.prog 26 #[.pointer (some ⟨r.b, 0, none⟩), .pointer none] w fun e w' => e = .returned (.int .i64 reason) ∧ w = w' := by
  have c0 := h.blk.cellAt 0 (v := .pointer (some ⟨r.s, 0, none⟩)) rfl
  have H := Lib.hid h
  clear h
  go_enter Tryz.func26, Tryz.ntmps26
  go_wp2_with (first | (go_at_call 83; refine (tok_made _ _ _ _ H.out.blk rfl).mono ?_; rintro e w' ⟨rfl, rfl⟩) | (go_at_call 66; refine (cell_load_at _ _ _ H.out.cell).mono ?_; rintro e w' ⟨rfl, rfl⟩))
  go_ret
  exact ⟨rfl, rfl⟩
theorem tok_on_bare (b : Nat) (cs : Array Value) (hb : Blk w b cs 65) (h3 : cs[0]? = some (.pointer none)) (f : Value) : Calls Tryz.prog 75 #[.pointer (some ⟨b, 0, none⟩), .pointer none, f] w fun e w' => e = .returned (.int .i64 2) ∧ w = w' := by
  have H := Lib.hid (And.intro hb h3)
  clear hb h3
  go_enter Tryz.func75, Tryz.ntmps75
  go_wp2_with fail
  refine (tok_made_bare _ _ _ H.out.1 H.out.2).mono ?_
  rintro e w' ⟨rfl, rfl⟩
  go_wp2_with fail
  go_ret
  exact ⟨rfl, rfl⟩
theorem tok_on_nil (h : Tok w r reason last head pl depth) : Calls Tryz.prog 75 #[.pointer (some ⟨r.b, 0, none⟩), .pointer none, .nilFunc] w fun e w' => e = .returned (.int .i64 1) ∧ w = w' := by
  have hnn : ∀ w, (binOp .eql 144 .nilFunc .nilFunc).run Tryz.prog w = .ok (.bool true) w := fun w => by kernel_rfl
  have H := Lib.hid h
  clear h
  go_enter Tryz.func75, Tryz.ntmps75
  go_wp2_with fail
  refine (tok_made _ _ _ _ H.out.blk rfl).mono ?_
  rintro e w' ⟨rfl, rfl⟩
  go_wp2_with fail
  go_ret
  exact ⟨rfl, rfl⟩
/-- The blocks of the list that Add turns. -/
theorem TR.lists (r : TR) {w w' : World} (h : Chg (fun k => k = r.lb ∨ k = r.hb ∨ k = r.pb) w w') : Chg r.has w w' := h.mono (fun k _ e => by unfold TR.has; omega)
theorem tok_on_add (h : Tok w r 0 0 0 pl depth) (F : Nat) (cap : Array Value) : Calls Tryz.prog 75 #[.pointer (some ⟨r.b, 0, none⟩), .pointer none, .func (.func F) #[] cap] w fun e w' => e = .returned (.int .i64 0) ∧ Tok w' r 0 1 1 (((pl.setIfInBounds 3 (.pointer none)).setIfInBounds 4 (.func (.func F) #[] cap)).setIfInBounds 5 (.int .i64 0)) depth ∧ Chg r.has w w' := by
  have hnn : ∀ w, (binOp .eql 144 (.func (.func F) #[] cap) .nilFunc).run Tryz.prog w = .ok (.bool false) w := fun w => by kernel_rfl
  have c1 := h.blk.cellAt 1 (v := .pointer (some ⟨r.l, 0, none⟩)) rfl
  have H := Lib.hid h
  have hne := Lib.hid (TokAt.ne h)
  clear h
  go_enter Tryz.func75, Tryz.ntmps75
  go_wp2_with fail
  refine (tok_made _ _ _ _ H.out.blk rfl).mono ?_
  rintro e w' ⟨rfl, rfl⟩
  go_wp2_with fail
  refine (elist_add _ _ _ _ _ _ _ _ ⟨⟨_, rfl⟩, .inr ⟨_, _, rfl⟩⟩ H.out.list).mono ?_
  rintro e w1 ⟨rfl, g1, g2⟩
  have HG := Lib.hid (And.intro g1 g2)
  clear g1 g2
  go_wp2_with fail
  go_ret
  obtain ⟨g1, g2⟩ := HG.out
  have hn := hne.out
  exact ⟨rfl, ⟨g2.blk H.out.blk (by omega), g2.blk H.out.cell (by omega), g1, H.out.n1, H.out.n2⟩, r.lists g2⟩
end Go.Proofs.YtgljjgmfhememaaGreatDoor
