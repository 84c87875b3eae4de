/- The texts of this chapter's errors. Conditions: internal/strconv.uint64pow10 holds what the program lays. -/
import Derived.Test.YtgdjbfcdkibdbaaDoorClass
import Derived.Test.YtgdjbfcdkibdbaaDoorShelf
import Derived.WalkSmall
import Derived.Lib.ItoaLen
namespace Go.Proofs.YtgdjbfcdkibdbaaDoor
open Go Go.RowKit Go.Sort
set_option maxRecDepth 100000
set_option maxHeartbeats 1000000
def Pow (w : World) : Prop := Lib.TabIs Tryd.prog w "internal/strconv.uint64pow10" .u64 Lib.pow10Tab
theorem powg : Tryd.prog.globalNamed "internal/strconv.uint64pow10" = some 2 := by kernel_rfl
theorem Pow.same {w w' : World} (h : Pow w) (hs : Same w w') : Pow w' := by
  unfold Pow Lib.TabIs World.var? at *
  simp only [powg, Option.bind_some] at h ⊢
  have hlt : 2 < w.heap.size := by
    rcases Nat.lt_or_ge 2 w.heap.size with g | g
    · exact g
    · rw [Array.getElem?_eq_none g] at h; simp at h
  rw [hs.old _ hlt (fun x => x)]
  exact h
theorem cat_run (a b : List UInt8) (h : a.length + b.length ≤ 1000000000) (w : World) : (binOp .add 9 (.string ⟨a.toArray⟩) (.string ⟨b.toArray⟩)).run Tryd.prog w = .ok (.string ⟨(a ++ b).toArray⟩) w := by
  go_simp
  rw [if_neg (by omega)]
  refine congrArg (fun s => Result.ok (Value.string s) w) ?_
  apply ByteArray.ext
  simp
theorem same_grow (w : World) (k : Nat) (os : Array Obj) : Same w (grow (w.drewN k) os) := by
  refine ⟨rfl, rfl, rfl, ?_, ?_⟩
  · simp [grow, World.drewN]
  · intro i hi _
    simp only [grow, World.drewN]
    exact Array.getElem?_append_left hi
abbrev tx (l : List UInt8) : Value := .string ⟨l.toArray⟩
theorem told_ok (w : World) (word : List UInt8) (hw : word.length ≤ 1000) (n : Int) (h0 : -9223372036854775808 ≤ n) (h1 : n ≤ 9223372036854775807) (hp : Pow w) : Calls Tryd.prog 75 #[tx word, .int .i64 n] w fun e w' => e = .returned (tx (word ++ [32] ++ Lib.itoa n)) ∧ Same w w' := by
  have hl := Lib.itoa_length_le n h0 h1
  have c1 := cat_run word [32] (by simp; omega)
  have c2 := cat_run (word ++ [32]) (Lib.itoa n) (by simp; omega)
  have e32 : (⟨#[32]⟩ : ByteArray) = ⟨[32].toArray⟩ := rfl
  rw [← e32] at c1
  have hF := Tryd.strconv_FormatInt_10 n h0 h1 w hp
  generalize Lib.itoa n = d at *
  go_enter Tryd.func75, Tryd.ntmps75
  go_wp2_with fail
  refine hF.mono ?_
  rintro e w' ⟨rfl, k, os, rfl⟩
  clear hF
  go_wp2_with fail
  go_ret
  exact ⟨rfl, same_grow w k os⟩
theorem failed_error (w : World) (b : Nat) (n : Int) (h0 : -9223372036854775808 ≤ n) (h1 : n ≤ 9223372036854775807) (hp : Pow w) (h : Blk w b #[.int .i64 n] 85) : Calls Tryd.prog 28 #[.pointer (some ⟨b, 0, none⟩)] w fun e w' => e = .returned (tx ([102, 97, 105, 108, 101, 100] ++ [32] ++ Lib.itoa n)) ∧ Same w w' := by
  have c0 := h.cellAt 0 (v := .int .i64 n) rfl
  go_enter Tryd.func28, Tryd.ntmps28
  go_wp2_with fail
  refine (told_ok w [102, 97, 105, 108, 101, 100] (by decide) n h0 h1 hp).mono ?_
  rintro e w' ⟨rfl, hs⟩
  go_wp2_with fail
  go_ret
  exact ⟨rfl, hs⟩
theorem cancelled_error (w : World) (b : Nat) (n : Int) (h0 : -9223372036854775808 ≤ n) (h1 : n ≤ 9223372036854775807) (hp : Pow w) (h : Blk w b #[.int .i64 n] 88) : Calls Tryd.prog 29 #[.pointer (some ⟨b, 0, none⟩)] w fun e w' => e = .returned (tx ([99, 97, 110, 99, 101, 108, 108, 101, 100] ++ [32] ++ Lib.itoa n)) ∧ Same w w' := by
  have c0 := h.cellAt 0 (v := .int .i64 n) rfl
  go_enter Tryd.func29, Tryd.ntmps29
  go_wp2_with fail
  refine (told_ok w [99, 97, 110, 99, 101, 108, 108, 101, 100] (by decide) n h0 h1 hp).mono ?_
  rintro e w' ⟨rfl, hs⟩
  go_wp2_with fail
  go_ret
  exact ⟨rfl, hs⟩
theorem late_error (w : World) (b : Nat) (n : Int) (h0 : -9223372036854775808 ≤ n) (h1 : n ≤ 9223372036854775807) (hp : Pow w) (h : Blk w b #[.int .i64 n] 91) : Calls Tryd.prog 30 #[.pointer (some ⟨b, 0, none⟩)] w fun e w' => e = .returned (tx ([108, 97, 116, 101] ++ [32] ++ Lib.itoa n)) ∧ Same w w' := by
  have c0 := h.cellAt 0 (v := .int .i64 n) rfl
  go_enter Tryd.func30, Tryd.ntmps30
  go_wp2_with fail
  refine (told_ok w [108, 97, 116, 101] (by decide) n h0 h1 hp).mono ?_
  rintro e w' ⟨rfl, hs⟩
  go_wp2_with fail
  go_ret
  exact ⟨rfl, hs⟩
theorem panicked_error (w : World) (b : Nat) (x : Value) (h : Blk w b #[x] 78) : Calls Tryd.prog 31 #[.pointer (some ⟨b, 0, none⟩)] w fun e w' => e = .returned (tx [112, 97, 110, 105, 99]) ∧ w = w' := by
  go_enter Tryd.func31, Tryd.ntmps31
  go_wp2_with fail
  go_ret
  exact ⟨rfl, rfl⟩
theorem nil_error (w : World) :
    Calls Tryd.prog 28 #[.pointer none] w (fun e w' => e = .returned (tx []) ∧ w = w') ∧ Calls Tryd.prog 29 #[.pointer none] w (fun e w' => e = .returned (tx []) ∧ w = w') ∧
    Calls Tryd.prog 30 #[.pointer none] w (fun e w' => e = .returned (tx []) ∧ w = w') ∧ Calls Tryd.prog 31 #[.pointer none] w (fun e w' => e = .returned (tx []) ∧ w = w') ∧
    Calls Tryd.prog 32 #[.pointer none] w (fun e w' => e = .returned (tx []) ∧ w = w') := by
  refine ⟨?_, ?_, ?_, ?_, ?_⟩
  · go_enter Tryd.func28, Tryd.ntmps28
    go_wp2_with fail
    go_ret
    exact ⟨rfl, rfl⟩
  · go_enter Tryd.func29, Tryd.ntmps29
    go_wp2_with fail
    go_ret
    exact ⟨rfl, rfl⟩
  · go_enter Tryd.func30, Tryd.ntmps30
    go_wp2_with fail
    go_ret
    exact ⟨rfl, rfl⟩
  · go_enter Tryd.func31, Tryd.ntmps31
    go_wp2_with fail
    go_ret
    exact ⟨rfl, rfl⟩
  · go_enter Tryd.func32, Tryd.ntmps32
    go_wp2_with fail
    go_ret
    exact ⟨rfl, rfl⟩
end Go.Proofs.YtgdjbfcdkibdbaaDoor
