/- The reference's Numbers on described errors. Conditions: none. -/
import Derived.Test.YtgdjbfcdkibdbaaDoorRefT
import Derived.Maps.AppendAt
import Derived.OwnWalk
namespace Go.Proofs.YtgdjbfcdkibdbaaDoor
open Go Go.RowKit Go.Sort
set_option maxRecDepth 100000
set_option maxHeartbeats 1000000
theorem ints_cells {w : World} {b off n : Nat} {zs : List Int} (hn : zs.length = n) (hc : ∀ j, j < n → w.cell? ⟨b, off + j, none⟩ = some (.int .i64 (zs.getD j 0))) : ∀ j u, (zs.map (Value.int .i64))[j]? = some u → w.cell? ((⟨b, off, none⟩ : Addr).add j) = some u := by
  intro j u hu
  rw [List.getElem?_map] at hu
  have hj : j < zs.length := by
    rcases Nat.lt_or_ge j zs.length with h | h
    · exact h
    · rw [List.getElem?_eq_none h] at hu; cases hu
  rw [List.getElem?_eq_getElem hj] at hu
  have e : (⟨b, off, none⟩ : Addr).add j = ⟨b, off + j, none⟩ := by unfold Addr.add; split <;> simp_all
  rw [e, hc j (by omega)]
  simpa [List.getElem?_eq_getElem hj] using hu
def atsOf (K n : Int) (zs : List Int) : List Int := if K = 6 then zs ++ [n] else zs
theorem Chg.of_grown' {w w' : World} (h : w.grownBy w' none) : Same w w' := ⟨h.os, h.tape, h.output, h.size, fun k hk _ => h.block k hk (by simp)⟩
theorem refNum_nil (w : World) (n : Int) (v : Value) :
    Calls Tryd.prog 22 #[.agg #[.int .i64 0, .int .i64 n, v]] w fun e w' => e = .returned (.slice none 0 0) ∧ Same w w' := by
  go_enter Tryd.func22, Tryd.ntmps22
  go_wp2_with fail
  refine (refIs_no _ _ _).mono ?_
  rintro e w' ⟨rfl, s1⟩
  go_wp2_with fail
  go_ret
  exact ⟨rfl, ((Chg.refl _ _).alloc _).trans s1⟩
/-- What append leaves of a nil row. -/
def Appd (w : World) (zs : List Int) (v' : Value) (w' : World) : Prop := w'.ownsRow w.heap.size 3 1 v' zs.length (zs.map (Value.int .i64)) ∧ Same w w'
theorem run_append_ints (w : World) (v : Value) (zs : List Int) (hv : Ints w v zs) (hlen : zs.length ≤ 100000) :
    ∃ v' w', (Builtin.append_ #[41, 41] 41 #[.slice none 0 0, v]).run Tryd.prog w = .ok v' w' ∧ Appd w zs v' w' := by
  obtain ⟨i0, hi, hz0, hz1, hz2⟩ := info_parts (P := Tryd.prog) (e := 3) (z := .int .i64 0) (size := 1) (bytes := 8) (by kernel_rfl)
  obtain ⟨_, ⟨p, cap, rfl, rfl⟩ | ⟨b, off, cap, rfl, _, hc⟩⟩ := hv
  · rcases p with _ | a
    · exact ⟨.slice none 0 0, w, by kernel_rfl, World.ownsRow_nil _ _ _ _, Chg.refl _ _⟩
    · obtain ⟨v', w', hr, h2, h3, _, _⟩ := run_append_own_at (P := Tryd.prog) w w.heap.size 41 41 3 i0 (.int .i64 0) 1 8 Tryd.underlying41 hi hz0 hz1 hz2 rfl (by omega) (.slice none 0 0) 0 [] (World.ownsRow_nil _ _ _ _) a 0 cap [] rfl (by simp) (by simp) (by simp) (by omega) (Nat.le_refl _)
      exact ⟨v', w', hr, by simpa using h2, Chg.of_grown' h3⟩
  · obtain ⟨v', w', hr, h2, h3, _, _⟩ := run_append_own_at (P := Tryd.prog) w w.heap.size 41 41 3 i0 (.int .i64 0) 1 8 Tryd.underlying41 hi hz0 hz1 hz2 rfl (by omega) (.slice none 0 0) 0 [] (World.ownsRow_nil _ _ _ _) ⟨b, off, none⟩ zs.length cap (zs.map (Value.int .i64)) (by simp) (ints_cells rfl hc) (by intro u hu; obtain ⟨z, _, rfl⟩ := List.mem_map.1 hu; rfl) (by simp [maxLen]; omega) (by omega) (Nat.le_refl _)
    exact ⟨v', w', hr, by simpa using h2, Chg.of_grown' h3⟩
theorem wpList_append_ints {ops : Array Oper} {rest : List Oper} {o : Oper} {a : Act} {Q : Exit → Act → World → Prop} (w : World) (v : Value) (zs : List Int) (hv : Ints w v zs) (hlen : zs.length ≤ 100000) (hgd : o.guard = none) (s x : Operand)
    (ho : o.op = .call { callee := .builtin .append, args := #[s, x], argTypes := #[41, 41] }) (hty : o.type = 41) (hs : a.eval s = .slice none 0 0) (hx : a.eval x = v)
    (h : ∀ v' w', Appd w zs v' w' → wpList Tryd.prog ops Q rest (a.put o.dst v') w') : wpList Tryd.prog ops Q (o :: rest) a w := by
  refine wpList_plain hgd fun K hK => ?_
  obtain ⟨v', w', hr, h2⟩ := run_append_ints w v zs hv hlen
  rw [← hty] at hr
  unfold Oper.wp execOp
  simp only [ho, resolve, invoke, builtin, Sem.run_bind, Sem.run_pure, Result.andThen_ok, List.map_toArray, List.map_cons, List.map_nil, hs, hx]
  rw [hty] at hr ⊢
  simp only [hr]
  exact hK _ _ (h v' w' h2)
theorem refNum_ok (w : World) (K n : Int) (v : Value) (zs : List Int) (h0 : 1 ≤ K) (h1 : K < 8) (hlen : zs.length ≤ 10000) (hv : Ints w v zs) :
    Calls Tryd.prog 22 #[.agg #[.int .i64 K, .int .i64 n, v]] w fun e w' => ∃ r, e = .returned r ∧ Ints w' r (atsOf K n zs) ∧ Same w w' := by
  obtain ⟨p, cap, rfl⟩ := hv.slice
  obtain ⟨i0, hi, hz0, hz1, hz2⟩ := info_parts (P := Tryd.prog) (e := 3) (z := .int .i64 0) (size := 1) (bytes := 8) (by kernel_rfl)
  have s1 : Same w (w.alloc (.cells #[.int .i64 K, .int .i64 n, .slice p zs.length cap] 43)) := (Chg.refl _ _).alloc _
  have kE : Blk (w.alloc (.cells #[.int .i64 K, .int .i64 n, .slice p zs.length cap] 43)) w.heap.size #[.int .i64 K, .int .i64 n, .slice p zs.length cap] 43 := Blk.new _ _ _
  go_enter Tryd.func22, Tryd.ntmps22
  go_wp2_with fail
  generalize (w.alloc (.cells #[.int .i64 K, .int .i64 n, .slice p zs.length cap] 43)) = w1 at *
  refine (refIs_ok w1 K n _ h0 h1).mono ?_
  rintro e w2 ⟨rfl, s2⟩
  have kE2 := s2.blk kE (fun x => x)
  have m2 := s1.trans s2
  have hv2 := hv.same m2
  have c0 := kE2.cellAt 0 (v := .int .i64 K) rfl
  have c1 := kE2.cellAt 1 (v := .int .i64 n) rfl
  have c2 := kE2.cellAt 2 (v := .slice p zs.length cap) rfl
  have hEl := kE2.lt
  clear s1 s2 kE hv
  go_wp2_with (at_builtin; refine wpList_append_ints w2 (.slice p zs.length cap) zs hv2 (by omega) rfl _ _ rfl rfl rfl rfl ?c1)
  case c1 =>
    rintro v1 w3 ⟨ho, s3⟩
    have m3 := m2.trans s3
    have d0 := (s3.blk kE2 (fun x => x)).cellAt 0 (v := .int .i64 K) rfl
    have d1 := (s3.blk kE2 (fun x => x)).cellAt 1 (v := .int .i64 n) rfl
    have hz := s3.size
    clear hv2 c0 c1 c2 m2
    by_cases hK : K = 6
    · subst hK
      clear kE2 s3
      go_wp2_with (at_builtin; refine wpList_append_own _ rfl _ _ 41 rfl w2.heap.size 3 i0 (.int .i64 0) 1 8 Tryd.underlying41 hi hz0 hz1 hz2 rfl (by decide) _ _ _ rfl (ho.alloc _) ⟨w3.heap.size, 0, none⟩ 1 1 [.int .i64 n] rfl rfl ?k1 ?k2 ?k3 ?k4 ?k5 ?k6)
      case k1 =>
        intro j u hj
        rcases j with _ | j
        · simp at hj; subst hj; exact (Blk.new w3 _ _).cellAt 0 rfl
        · simp at hj
      case k2 => intro u hu; simp at hu; subst hu; rfl
      case k3 => simp [maxLen]; omega
      case k4 => omega
      case k5 => simp; omega
      case k6 =>
        intro v2 w4 ho2 hg2 hn2
        have hol := ho.lt
        have m4 : Same w w4 := (m3.alloc _).trans' (S' := fun k => v1.ownBlock = some k) ⟨hg2.os, hg2.tape, hg2.output, hg2.size, fun k hk hn => hg2.block k hk (fun e => hn e.symm)⟩ (fun i hi e => by have := (hol i e).1; omega)
        clear d0 d1 hg2 hn2
        go_wp2_with fail
        go_ret
        exact ⟨_, rfl, ints_of_own (base := w2.heap.size) (by simp [atsOf]; omega) (by simpa [atsOf] using ho2), m4⟩
    · have e6 : (K == 6) = false := by simp [hK]
      clear kE2 s3
      go_wp2_with fail
      go_ret
      exact ⟨_, rfl, by unfold atsOf; rw [if_neg hK]; exact ints_of_own (by omega) ho, m3⟩
end Go.Proofs.YtgdjbfcdkibdbaaDoor
