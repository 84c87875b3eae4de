/- treadlelaw12.brought and Make. Conditions: treadlelaw12.plain holds what the program lays. -/
import Derived.Test.YtgdjbfcdkibdbaaDoorInts
import Derived.Test.YtgdjbfcdkibdbaaDoorClass
import Derived.Laws.Rows
namespace Go.Proofs.YtgdjbfcdkibdbaaDoor
open Go Go.RowKit
set_option maxRecDepth 100000
set_option maxHeartbeats 1000000
def bKind (k : Int) : Int := (k.tmod 8 + 8).tmod 8
theorem bKind_range (k : Int) : 0 ≤ bKind k ∧ bKind k < 8 := by
  unfold bKind
  have h1 := Int.tmod_lt_of_pos k (show (0:Int) < 8 by decide)
  have h2 := Int.lt_tmod_of_pos k (show (0:Int) < 8 by decide)
  have h3 := Int.tmod_lt_of_pos (k.tmod 8 + 8) (show (0:Int) < 8 by decide)
  have h4 := Int.tmod_nonneg (8 : Int) (show (0:Int) ≤ k.tmod 8 + 8 by omega)
  exact ⟨h4, h3⟩
theorem Blk.new2 (w : World) (cs cs' : Array Value) (T T' : TypeId) : ((w.alloc (.cells cs' T')).alloc (.cells cs T)).heap[w.heap.size + 1]? = some (.cells cs T (0, 0)) := by
  have h := Blk.new (w.alloc (.cells cs' T')) cs T
  unfold Blk at h
  simpa using h
/-- Two slices at one address. -/
def SameAt (v v' : Value) : Prop := ∃ p n c n' c', v = .slice p n c ∧ v' = .slice p n' c'
theorem brought_at (w : World) (k n : Int) (v : Value) (zs : List Int) (h0 : -9223372036854775808 ≤ k) (h1 : k ≤ 9223372036854775807) (hv : Ints w v zs) (hk : ¬ bKind k = 0) (hk5 : ¬ bKind k = 5) :
    Calls Tryd.prog 17 #[.agg #[.int .i64 k, .int .i64 n, v]] w fun e w' => ∃ v', e = .returned (.agg #[.int .i64 (bKind k), .int .i64 n, v']) ∧ Ints w' v' (zs.take 1000) ∧ Same w w' ∧ SameAt v v' := by
  have hkr := bKind_range k
  have hw : wrap64 (k.tmod 8 + 8) = k.tmod 8 + 8 := by
    have h1 := Int.tmod_lt_of_pos k (show (0:Int) < 8 by decide)
    have h2 := Int.lt_tmod_of_pos k (show (0:Int) < 8 by decide)
    unfold wrap64
    omega
  have hK : (k.tmod 8 + 8).tmod 8 = bKind k := rfl
  generalize bKind k = K at *
  have e0 : (K == 0) = false := by simp [hk]
  have e5 : (K == 5) = false := by simp [hk5]
  have hn : ¬ (K = 0 ∨ K = 5) := by omega
  obtain ⟨hl, ⟨q, cq, rfl, rfl⟩ | ⟨b, off, cap, rfl, hcp, hc⟩⟩ := hv
  · go_enter Tryd.func17, Tryd.ntmps17
    go_wp2_with fail
    refine bodyPost_ret (results_cell_row rfl _ _ (w.heap.size + 1) _ #[.int .i64 K, .int .i64 n, .slice q 0 cq] (0, 0) _ rfl (Blk.new2 _ _ _ _ _) Tryd.underlying43 rfl (by kernel_rfl)) rfl ?_
    exact ⟨_, rfl, ⟨by simp, .inl ⟨_, _, rfl, by simp⟩⟩, ((Chg.refl _ _).alloc _).alloc _, ⟨_, _, _, _, _, rfl, rfl⟩⟩
  · by_cases hlen : zs.length > 1000
    · go_enter Tryd.func17, Tryd.ntmps17
      have hcp' : 1000 ≤ cap := by omega
      go_wp2_with fail
      refine bodyPost_ret (results_cell_row rfl _ _ (w.heap.size + 1) _ #[.int .i64 K, .int .i64 n, .slice (some ⟨b, off, none⟩) 1000 cap] (0, 0) _ rfl (Blk.new2 _ _ _ _ _) Tryd.underlying43 rfl (by kernel_rfl)) rfl ?_
      refine ⟨_, rfl, ?_, ((Chg.refl _ _).alloc _).alloc _, ⟨_, _, _, _, _, rfl, rfl⟩⟩
      have hl2 : (zs.take 1000).length = 1000 := by rw [List.length_take]; omega
      refine Ints.same (w := w) ⟨by omega, .inr ⟨b, off, cap, by rw [hl2], by omega, fun j hj => ?_⟩⟩ (((Chg.refl _ _).alloc _).alloc _)
      rw [hc j (by omega)]
      simp [List.getD_eq_getElem?_getD, List.getElem?_take_of_lt (show j < 1000 by omega)]
    · go_enter Tryd.func17, Tryd.ntmps17
      go_wp2_with fail
      refine bodyPost_ret (results_cell_row rfl _ _ (w.heap.size + 1) _ #[.int .i64 K, .int .i64 n, .slice (some ⟨b, off, none⟩) zs.length cap] (0, 0) _ rfl (Blk.new2 _ _ _ _ _) Tryd.underlying43 rfl (by kernel_rfl)) rfl ?_
      refine ⟨_, rfl, ?_, ((Chg.refl _ _).alloc _).alloc _, ⟨_, _, _, _, _, rfl, rfl⟩⟩
      rw [List.take_of_length_le (by omega)]
      exact Ints.same (w := w) ⟨hl, .inr ⟨b, off, cap, rfl, hcp, hc⟩⟩ (((Chg.refl _ _).alloc _).alloc _)
theorem brought_ok (w : World) (k n : Int) (v : Value) (zs : List Int) (h0 : -9223372036854775808 ≤ k) (h1 : k ≤ 9223372036854775807) (hv : Ints w v zs) (hk : ¬ bKind k = 0) (hk5 : ¬ bKind k = 5) :
    Calls Tryd.prog 17 #[.agg #[.int .i64 k, .int .i64 n, v]] w fun e w' => ∃ v', e = .returned (.agg #[.int .i64 (bKind k), .int .i64 n, v']) ∧ Ints w' v' (zs.take 1000) ∧ Same w w' :=
  (brought_at w k n v zs h0 h1 hv hk hk5).mono fun _ _ ⟨v', a, b, c, _⟩ => ⟨v', a, b, c⟩
end Go.Proofs.YtgdjbfcdkibdbaaDoor
