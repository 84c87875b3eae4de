/- The reference's answers on described errors: Class, text, Text, Numbers, Same. Conditions: internal/strconv.uint64pow10 holds what the program lays. -/
import Derived.Test.YtgdjbfcdkibdbaaDoorMakeB
import Derived.Test.YtgdjbfcdkibdbaaDoorNumB
namespace Go.Proofs.YtgdjbfcdkibdbaaDoor
open Go Go.RowKit Go.Sort
set_option maxRecDepth 100000
set_option maxHeartbeats 1000000
def refCls (K n : Int) : Int := if K = 0 then 0 else if K = 2 then 20 else if K = 3 then 21 else if K = 4 then 22 else if K = 7 then n else 23
theorem refClass_ok (w : World) (K n : Int) (v : Value) (h0 : 0 ≤ K) (h1 : K < 8) :
    Calls Tryd.prog 19 #[.agg #[.int .i64 K, .int .i64 n, v]] w fun e w' => e = .returned (.int .i64 (refCls K n)) ∧ Same w w' := by
  obtain rfl | rfl | rfl | rfl | rfl | rfl | rfl | rfl : K = 0 ∨ K = 1 ∨ K = 2 ∨ K = 3 ∨ K = 4 ∨ K = 5 ∨ K = 6 ∨ K = 7 := by omega
  all_goals
    clear h0 h1
    go_enter Tryd.func19, Tryd.ntmps19
    go_wp2_with fail
    go_ret
    exact ⟨rfl, (Chg.refl _ _).alloc _⟩
def refText (K n : Int) : List UInt8 :=
  if K = 1 then [102, 97, 105, 108, 101, 100] ++ [32] ++ Lib.itoa n else if K = 2 then [99, 97, 110, 99, 101, 108, 108, 101, 100] ++ [32] ++ Lib.itoa n else if K = 3 then [108, 97, 116, 101] ++ [32] ++ Lib.itoa n
  else if K = 4 then [112, 97, 110, 105, 99] else if K = 5 then [112, 108, 97, 105, 110] else if K = 6 then Lib.itoa n ++ [58, 32] else if K = 7 then errText n else []
theorem refText_len (K n : Int) (hn : F64 n) : (refText K n).length ≤ 100 := by
  have := Lib.itoa_length_le n hn.1 hn.2
  have h2 := errGo_length 64 n.toNat []
  unfold refText
  split
  · simp; omega
  split
  · simp; omega
  split
  · simp; omega
  split
  · simp
  split
  · simp
  split
  · simp; omega
  split
  · simp [errText] at h2 ⊢; omega
  · simp
theorem reftext_ok (w : World) (K n : Int) (v : Value) (h0 : 1 ≤ K) (h1 : K < 8) (hn : F64 n) (hp : Pow w) :
    Calls Tryd.prog 74 #[.agg #[.int .i64 K, .int .i64 n, v]] w fun e w' => e = .returned (tx (refText K n)) ∧ Same w w' := by
  have hl := Lib.itoa_length_le n hn.1 hn.2
  have s1 : Same w (w.alloc (.cells #[.int .i64 K, .int .i64 n, v] 43)) := (Chg.refl _ _).alloc _
  have hF := Tryd.strconv_FormatInt_10 n hn.1 hn.2 _ (hp.same s1)
  have hE := errno_error (w.alloc (.cells #[.int .i64 K, .int .i64 n, v] 43)) n hn.1 hn.2
  have hr : ∀ x, refText K n = x → tx (refText K n) = tx x := fun x h => by rw [h]
  generalize hR : refText K n = R at *
  unfold refText at hR
  generalize Lib.itoa n = d at *
  have hR' := Lib.hid hR
  clear hR hn hp
  obtain rfl | rfl | rfl | rfl | rfl | rfl | rfl : K = 1 ∨ K = 2 ∨ K = 3 ∨ K = 4 ∨ K = 5 ∨ K = 6 ∨ K = 7 := by omega
  · clear hE
    go_enter Tryd.func74, Tryd.ntmps74
    go_wp2_with fail
    refine hF.mono ?_
    rintro e w' ⟨rfl, k, os, rfl⟩
    clear hF
    go_wp2_with fail
    go_ret
    exact ⟨by rw [← hR'.out]; exact congrArg (fun s => Ending.returned (Value.string s)) (ByteArray.ext (by simp)), s1.trans (same_grow _ k os)⟩
  · clear hE
    go_enter Tryd.func74, Tryd.ntmps74
    go_wp2_with fail
    refine hF.mono ?_
    rintro e w' ⟨rfl, k, os, rfl⟩
    clear hF
    go_wp2_with fail
    go_ret
    exact ⟨by rw [← hR'.out]; exact congrArg (fun s => Ending.returned (Value.string s)) (ByteArray.ext (by simp)), s1.trans (same_grow _ k os)⟩
  · clear hE
    go_enter Tryd.func74, Tryd.ntmps74
    go_wp2_with fail
    refine hF.mono ?_
    rintro e w' ⟨rfl, k, os, rfl⟩
    clear hF
    go_wp2_with fail
    go_ret
    exact ⟨by rw [← hR'.out]; exact congrArg (fun s => Ending.returned (Value.string s)) (ByteArray.ext (by simp)), s1.trans (same_grow _ k os)⟩
  · clear hE hF
    go_enter Tryd.func74, Tryd.ntmps74
    go_wp2_with fail
    go_ret
    exact ⟨by rw [← hR'.out]; rfl, s1⟩
  · clear hE hF
    go_enter Tryd.func74, Tryd.ntmps74
    go_wp2_with fail
    go_ret
    exact ⟨by rw [← hR'.out]; rfl, s1⟩
  · clear hE
    go_enter Tryd.func74, Tryd.ntmps74
    go_wp2_with fail
    refine hF.mono ?_
    rintro e w' ⟨rfl, k, os, rfl⟩
    clear hF
    go_wp2_with fail
    go_ret
    exact ⟨by rw [← hR'.out]; exact congrArg (fun s => Ending.returned (Value.string s)) (ByteArray.ext (by simp)), s1.trans (same_grow _ k os)⟩
  · clear hF
    go_enter Tryd.func74, Tryd.ntmps74
    go_wp2_with fail
    refine hE.mono ?_
    rintro e w' ⟨rfl, rfl⟩
    clear hE
    go_wp2_with fail
    go_ret
    exact ⟨by rw [← hR'.out]; rfl, s1⟩
end Go.Proofs.YtgdjbfcdkibdbaaDoor
