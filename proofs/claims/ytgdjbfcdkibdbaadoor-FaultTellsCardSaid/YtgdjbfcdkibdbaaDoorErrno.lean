/- The text of an Errno. Conditions: none. -/
import Derived.Test.YtgdjbfcdkibdbaaDoorText
namespace Go.Proofs.YtgdjbfcdkibdbaaDoor
open Go Go.RowKit Go.Sort
set_option maxRecDepth 100000
set_option maxHeartbeats 1000000
/-- n's digits ahead of s (fuel many at most). -/
def errGo : Nat → Nat → List UInt8 → List UInt8
  | 0, _, s => s
  | f + 1, n, s => if n = 0 then s else errGo f (n / 10) (UInt8.ofNat (48 + n % 10) :: s)
def errText (n : Int) : List UInt8 := [101, 114, 114, 111, 114, 32] ++ errGo 64 n.toNat []
theorem rune_run (d : Int) (h0 : 0 ≤ d) (h : d < 10) : Utf8.encode (48 + d) = ⟨[UInt8.ofNat (48 + d.toNat)].toArray⟩ := by
  have : d = 0 ∨ d = 1 ∨ d = 2 ∨ d = 3 ∨ d = 4 ∨ d = 5 ∨ d = 6 ∨ d = 7 ∨ d = 8 ∨ d = 9 := by omega
  rcases this with rfl | rfl | rfl | rfl | rfl | rfl | rfl | rfl | rfl | rfl <;> rfl
theorem errGo_length : ∀ (f n : Nat) (s : List UInt8), (errGo f n s).length ≤ f + s.length
  | 0, _, s => by simp [errGo]
  | f + 1, n, s => by
    unfold errGo
    split
    · omega
    · have := errGo_length f (n / 10) (UInt8.ofNat (48 + n % 10) :: s)
      simp only [List.length_cons] at this
      omega
theorem errno_error (w : World) (n : Int) (h0 : -9223372036854775808 ≤ n) (h1 : n ≤ 9223372036854775807) : Calls Tryd.prog 72 #[.int .i64 n] w fun e w' => e = .returned (tx (errText n)) ∧ w = w' := by
  go_enter Tryd.func72, Tryd.ntmps72
  go_wp2
  go_loop [3, 4] (fun s i => ∃ (f : Nat) (z : Int) (l : List UInt8), f ≤ 64 ∧ -9223372036854775808 ≤ z ∧ z ≤ 9223372036854775807 ∧ z.toNat < 2 ^ f ∧ l.length + f ≤ 64 ∧ s = tx l ∧ i = .int .i64 z ∧ errGo f z.toNat l = errGo 64 n.toNat []) (fun _ i => (intOf i).toNat)
  case atStart => exact ⟨64, n, [], by omega, h0, h1, by omega, by simp, rfl, rfl, rfl⟩
  case round =>
    obtain ⟨f, z, l, hf, z0, z1, hz, hlf, rfl, rfl, heq⟩ := hrel
    by_cases hp : z > 0
    · have he := rune_run (z % 10) (by omega) (by omega)
      have hc := cat_run [UInt8.ofNat (48 + (z % 10).toNat)] l (by simp; omega)
      obtain ⟨f, rfl⟩ : ∃ k, f = k + 1 := by
        rcases f with _ | f
        · simp at hz; omega
        · exact ⟨f, rfl⟩
      have hq : errGo f (z / 10).toNat (UInt8.ofNat (48 + (z % 10).toNat) :: l) = errGo 64 n.toNat [] := by
        rw [← heq]
        conv => rhs; unfold errGo
        rw [if_neg (by omega)]
        have e1 : (z / 10).toNat = z.toNat / 10 := by omega
        have e2 : (z % 10).toNat = z.toNat % 10 := by omega
        rw [e1, e2]
      have hz' : (z / 10).toNat < 2 ^ f := by
        have : 2 ^ (f + 1) = 2 * 2 ^ f := by rw [Nat.pow_succ, Nat.mul_comm]
        omega
      go_wp2_with fail
      · refine ⟨⟨f, z / 10, _, by omega, by omega, by omega, hz', ?_, ?_, rfl, hq⟩, ?_⟩
        · simp; omega
        · simp only [tx]
          refine congrArg Value.string (ByteArray.ext (by simp))
        · simp only [intOf]; omega
    · have hz0 : z.toNat = 0 := by omega
      rw [hz0] at heq
      have hl : l = errGo 64 n.toNat [] := by
        rw [← heq]
        cases f <;> simp [errGo]
      have hll := errGo_length 64 n.toNat []
      rw [← hl] at hll
      have hc := cat_run [101, 114, 114, 111, 114, 32] l (by simp at hll ⊢; omega)
      have hl' := Lib.hid hl
      have hll' : l.length ≤ 64 := by simpa using hll
      clear hl hll
      go_wp2_with fail
      go_ret
      refine ⟨?_, rfl⟩
      simp only [errText, tx, ← hl'.out]
      refine congrArg (fun s => Ending.returned (Value.string s)) (ByteArray.ext (by simp))
end Go.Proofs.YtgdjbfcdkibdbaaDoor
