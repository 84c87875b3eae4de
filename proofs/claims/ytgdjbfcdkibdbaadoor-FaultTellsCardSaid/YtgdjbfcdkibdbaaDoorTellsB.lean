/- More of what FaultTells asks: a row put ahead of a list; the methods of nil pointers; Numbers of a nil *At. Conditions: none. -/
import Derived.Test.YtgdjbfcdkibdbaaDoorTellsA
import Derived.Laws.OwnMore
namespace Go.Proofs.YtgdjbfcdkibdbaaDoor
open Go Go.RowKit Go.Sort
set_option maxRecDepth 100000
set_option maxHeartbeats 1000000
theorem run_append_at (w : World) (g : Nat) (x : Int) (hb : w.heap[g]? = some (.cells #[.int .i64 x] 3 (0, 0))) (v : Value) (zs : List Int) (hv : Ints w v zs) (hlen : zs.length ≤ 100000) (base : Nat) (hbase : base ≤ g) :
    ∃ v' w', (Builtin.append_ #[41, 41] 41 #[.slice (some ⟨g, 0, none⟩) 1 1, v]).run Tryd.prog w = .ok v' w' ∧ w'.ownsRow base 3 1 v' (1 + zs.length) (.int .i64 x :: zs.map (Value.int .i64)) ∧ w.grownBy w' (some g) := by
  obtain ⟨i0, hi, hz0, hz1, hz2⟩ := info_parts (P := Tryd.prog) (e := 3) (z := .int .i64 0) (size := 1) (bytes := 8) (by kernel_rfl)
  have hgl : g < w.heap.size := by
    rcases Nat.lt_or_ge g w.heap.size with h | h
    · exact h
    · rw [Array.getElem?_eq_none h] at hb; cases hb
  have own : w.ownsRow base 3 1 (.slice (some ⟨g, 0, none⟩) 1 1) 1 [.int .i64 x] := ⟨rfl, .inr ⟨g, 1, _, rfl, hbase, hb, Nat.le_refl _, by decide, rfl, rfl⟩⟩
  obtain ⟨_, ⟨p, cap, rfl, rfl⟩ | ⟨b, off, cap, rfl, _, hc⟩⟩ := hv
  · rcases p with _ | a
    · refine ⟨.slice (some ⟨g, 0, none⟩) 1 1, w, ?_, own, World.grownBy.refl w _⟩
      simp [Builtin.append_, run_underlying Tryd.underlying41, sizeOf, typeInfo, hi, Builtin.lenOf, Builtin.firstCells, storeCells]
    · obtain ⟨v', w', hr, h2, h3, _, _⟩ := run_append_own_at (P := Tryd.prog) w base 41 41 3 i0 (.int .i64 0) 1 8 Tryd.underlying41 hi hz0 hz1 hz2 rfl (by omega) (.slice (some ⟨g, 0, none⟩) 1 1) 1 _ own a 0 cap [] rfl (by simp) (by simp) (by simp [maxLen]) (by omega) (by omega)
      exact ⟨v', w', hr, by simpa using h2, h3⟩
  · obtain ⟨v', w', hr, h2, h3, _, _⟩ := run_append_own_at (P := Tryd.prog) w base 41 41 3 i0 (.int .i64 0) 1 8 Tryd.underlying41 hi hz0 hz1 hz2 rfl (by omega) (.slice (some ⟨g, 0, none⟩) 1 1) 1 _ own ⟨b, off, none⟩ zs.length cap (zs.map (Value.int .i64)) (by simp) (ints_cells rfl hc) (by intro u hu; obtain ⟨z, _, rfl⟩ := List.mem_map.1 hu; rfl) (by simp [maxLen]; omega) (by omega) (by omega)
    exact ⟨v', w', hr, by simpa using h2, h3⟩
theorem wpList_append_at {ops : Array Oper} {rest : List Oper} {o : Oper} {a : Act} {Q : Exit → Act → World → Prop} (w : World) (g : Nat) (y : Int) (hb : w.heap[g]? = some (.cells #[.int .i64 y] 3 (0, 0))) (v : Value) (zs : List Int) (hv : Ints w v zs) (hlen : zs.length ≤ 100000) (base : Nat) (hbase : base ≤ g) (hgd : o.guard = none) (s x : Operand)
    (ho : o.op = .call { callee := .builtin .append, args := #[s, x], argTypes := #[41, 41] }) (hty : o.type = 41) (hs : a.eval s = .slice (some ⟨g, 0, none⟩) 1 1) (hx : a.eval x = v)
    (h : ∀ v' w', w'.ownsRow base 3 1 v' (1 + zs.length) (.int .i64 y :: zs.map (Value.int .i64)) → w.grownBy w' (some g) → wpList Tryd.prog ops Q rest (a.put o.dst v') w') : wpList Tryd.prog ops Q (o :: rest) a w := by
  refine wpList_plain hgd fun K hK => ?_
  obtain ⟨v', w', hr, h2, h3⟩ := run_append_at w g y hb v zs hv hlen base hbase
  rw [← hty] at hr
  unfold Oper.wp execOp
  simp only [ho, resolve, invoke, builtin, Sem.run_bind, Sem.run_pure, Result.andThen_ok, List.map_toArray, List.map_cons, List.map_nil, hs, hx]
  rw [hty] at hr ⊢
  simp only [hr]
  exact hK _ _ (h v' w' h2 h3)
theorem nil_unwrap_Failed (w : World) : Calls Tryd.prog 33 #[.pointer none] w fun e w' => e = .returned .nilIface ∧ w = w' := by
  go_enter Tryd.func33, Tryd.ntmps33
  go_wp2_with fail
  go_ret
  exact ⟨rfl, rfl⟩
theorem nil_unwrap_Cancelled (w : World) : Calls Tryd.prog 34 #[.pointer none] w fun e w' => e = .returned .nilIface ∧ w = w' := by
  go_enter Tryd.func34, Tryd.ntmps34
  go_wp2_with fail
  go_ret
  exact ⟨rfl, rfl⟩
theorem nil_unwrap_Late (w : World) : Calls Tryd.prog 35 #[.pointer none] w fun e w' => e = .returned .nilIface ∧ w = w' := by
  go_enter Tryd.func35, Tryd.ntmps35
  go_wp2_with fail
  go_ret
  exact ⟨rfl, rfl⟩
theorem nil_unwrap_Panicked (w : World) : Calls Tryd.prog 36 #[.pointer none] w fun e w' => e = .returned .nilIface ∧ w = w' := by
  go_enter Tryd.func36, Tryd.ntmps36
  go_wp2_with fail
  go_ret
  exact ⟨rfl, rfl⟩
theorem nil_unwrap_At (w : World) : Calls Tryd.prog 37 #[.pointer none] w fun e w' => e = .returned .nilIface ∧ w = w' := by
  go_enter Tryd.func37, Tryd.ntmps37
  go_wp2_with fail
  go_ret
  exact ⟨rfl, rfl⟩
theorem numbers_typednil (w : World) (hg : ErrType w) (hl : 1 < w.heap.size) :
    Calls Tryd.prog 21 #[.iface 59 (.pointer none)] w fun e w' => e = .returned (.slice none 0 0) ∧ Same w w' := by
  go_enter Tryd.func21, Tryd.ntmps21
  go_wp2_with fail
  refine wp_loop_rounds 1 ?_; rw [rounds_succ]
  go_wp2_with fail
  have t1 : Blk (w.alloc (.cells #[.pointer none] 59)) w.heap.size #[.pointer none] 59 := Blk.new _ _ _
  have s1 : Same w (w.alloc (.cells #[.pointer none] 59)) := (Chg.refl _ _).alloc _
  have hz : w.heap.size < (w.alloc (.cells #[.pointer none] 59)).heap.size := t1.lt
  generalize w.alloc (.cells #[.pointer none] 59) = w1 at *
  refine (As_hit_At 0 59 _ w1 w.heap.size none (.pointer none) (hg.same s1 hl) (by omega) t1 (fun w3 h3 => .hit (lk_At _) isT_At)).mono ?_
  rintro e w2 ⟨rfl, s2, t2⟩
  have c1 := t2.cellAt 0 (v := .pointer none) rfl
  have m2 : Same w w2 := s1.trans' s2 (fun i hi e => by omega)
  clear s2 t2 t1 s1
  go_wp2_with fail
  go_ret
  exact ⟨rfl, m2⟩
end Go.Proofs.YtgdjbfcdkibdbaaDoor
