/- memo's Get and Keys, one goroutine. Conditions: math/bits.deBruijn64tab holds what the program lays. -/
import Derived.Test.YtgdjbfcdkibdbaaGreatDoorMemoB
import Derived.Test.YtgdjbfcdkibdbaaGreatDoorCatch
namespace Go.Proofs.YtgdjbfcdkibdbaaGreatDoor
open Go Go.RowKit
set_option maxRecDepth 100000
set_option maxHeartbeats 2000000
abbrev num (n : Int) : Value := .iface 35 (.int .i64 n)
theorem get_none (key : Int) (F : Nat) (cap : Array Value) (w : World) : Calls Tryz.prog 15 #[.pointer none, .pointer none, .int .i64 key, .func (.func F) #[] cap] w fun e w' => e = .returned (.tuple #[.int .i64 0, num 2, .bool false]) ∧ Same w w' := by
  go_enter Tryz.func15, Tryz.ntmps15
  go_wp2_with fail
  refine (memo_made_none _).mono ?_
  rintro e w' ⟨rfl, rfl⟩
  go_wp2_with fail
  go_ret3
  exact ⟨rfl, ((Chg.refl _ _).alloc _).alloc _⟩
theorem get_bare {m : Nat} (key : Int) (F : Nat) (cap : Array Value) (w : World) (h : Blk w m #[.slice none 0 0] 28) : Calls Tryz.prog 15 #[.pointer (some ⟨m, 0, none⟩), .pointer none, .int .i64 key, .func (.func F) #[] cap] w fun e w' => e = .returned (.tuple #[.int .i64 0, num 2, .bool false]) ∧ Same w w' := by
  go_enter Tryz.func15, Tryz.ntmps15
  go_wp2_with fail
  refine (memo_made_bare ((h.alloc _).alloc _)).mono ?_
  rintro e w' ⟨rfl, rfl⟩
  go_wp2_with fail
  go_ret3
  exact ⟨rfl, ((Chg.refl _ _).alloc _).alloc _⟩
theorem get_arg {m pb n : Nat} {cs : Array Value} (key : Int) (F : Nat) (cap : Array Value) (w : World) (h : MemoB w m pb n cs) (hn : 0 < n) (hk : key < 0 ∨ key = 9223372036854775807) : Calls Tryz.prog 15 #[.pointer (some ⟨m, 0, none⟩), .pointer none, .int .i64 key, .func (.func F) #[] cap] w fun e w' => e = .returned (.tuple #[.int .i64 0, num 1, .bool false]) ∧ Same w w' := by
  have hm := memo_made (h.chg (S := fun _ => False) (((Chg.refl _ _).alloc (.cells #[.pointer none] 29)).alloc (.cells #[.func (.func F) #[] cap] 32)) (fun x => x) (fun x => x)) hn
  rcases hk with hk | rfl
  · go_enter Tryz.func15, Tryz.ntmps15
    go_wp2_with fail
    refine hm.mono ?_
    rintro e w' ⟨rfl, rfl⟩
    clear hm
    go_wp2_with fail
    go_ret3
    exact ⟨rfl, ((Chg.refl _ _).alloc _).alloc _⟩
  · go_enter Tryz.func15, Tryz.ntmps15
    go_wp2_with fail
    refine hm.mono ?_
    rintro e w' ⟨rfl, rfl⟩
    clear hm
    go_wp2_with fail
    go_ret3
    exact ⟨rfl, ((Chg.refl _ _).alloc _).alloc _⟩
theorem get_nil {m pb n : Nat} {cs : Array Value} (w : World) (h : MemoB w m pb n cs) (hn : 0 < n) : Calls Tryz.prog 15 #[.pointer (some ⟨m, 0, none⟩), .pointer none, .int .i64 1, .nilFunc] w fun e w' => e = .returned (.tuple #[.int .i64 0, num 1, .bool false]) ∧ Same w w' := by
  have hm := memo_made (h.chg (S := fun _ => False) (((Chg.refl _ _).alloc (.cells #[.pointer none] 29)).alloc (.cells #[.nilFunc] 32)) (fun x => x) (fun x => x)) hn
  have hnn : ∀ w, (binOp .eql 32 .nilFunc .nilFunc).run Tryz.prog w = .ok (.bool true) w := fun w => by kernel_rfl
  go_enter Tryz.func15, Tryz.ntmps15
  go_wp2_with fail
  refine hm.mono ?_
  rintro e w' ⟨rfl, rfl⟩
  clear hm
  go_wp2_with fail
  go_ret3
  exact ⟨rfl, ((Chg.refl _ _).alloc _).alloc _⟩
theorem keys_none (w : World) : Calls Tryz.prog 17 #[.pointer none, .pointer none] w fun e w' => e = .returned (.slice none 0 0) ∧ w = w' := by
  go_enter Tryz.func17, Tryz.ntmps17
  go_wp2_with fail
  refine (memo_made_none _).mono ?_
  rintro e w' ⟨rfl, rfl⟩
  go_wp2_with fail
  go_ret
  exact ⟨rfl, rfl⟩
theorem keys_bare {m : Nat} (w : World) (h : Blk w m #[.slice none 0 0] 28) : Calls Tryz.prog 17 #[.pointer (some ⟨m, 0, none⟩), .pointer none] w fun e w' => e = .returned (.slice none 0 0) ∧ w = w' := by
  go_enter Tryz.func17, Tryz.ntmps17
  go_wp2_with fail
  refine (memo_made_bare h).mono ?_
  rintro e w' ⟨rfl, rfl⟩
  go_wp2_with fail
  go_ret
  exact ⟨rfl, rfl⟩
end Go.Proofs.YtgdjbfcdkibdbaaGreatDoor
