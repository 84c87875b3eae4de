/- A region that draws its order, by an invariant over what has come up. Conditions: none. -/
import Derived.Deep.RegionHeld3
namespace Go.Proofs.YtgljjgmfhememaaGreatDoor
open Go
section
variable {P : Program} {ops : Array Oper} {Q : Exit → Act → World → Prop} {md : Region.Mode}
/-- How many have not come up yet. -/
def openOps (l : Array Bool) : Nat := l.toList.countP (fun b => !b)
theorem countP_set_lt : ∀ (l : List Bool) (i : Nat) (h : i < l.length), l[i] = false → (l.set i true).countP (fun b => !b) < l.countP (fun b => !b)
  | b :: l, 0, _, h => by simp at h; subst h; simp
  | b :: l, i + 1, h, hb => by
    have := countP_set_lt l i (by simpa using h) (by simpa using hb)
    simp only [List.set_cons_succ, List.countP_cons]
    omega
theorem openOps_set {l : Array Bool} {i : Nat} (h : l.getD i true = false) : openOps (l.setIfInBounds i true) < openOps l := by
  have hi : i < l.size := by
    rcases Nat.lt_or_ge i l.size with g | g
    · exact g
    · simp [Array.getD, Nat.not_lt.2 g] at h
  have hv : l.toList[i]'(by simpa using hi) = false := by
    simp [Array.getD, hi] at h; simpa using h
  unfold openOps
  rw [Array.toList_setIfInBounds]
  exact countP_set_lt _ _ _ hv
/-- A region in whatever order, by an invariant. -/
theorem wpAny_inv (I : Array Bool → Act → World → Prop)
    (hstep : ∀ listed a w i, I listed a w → i ∈ Region.ready md ops listed → wpOp P ops Q i (fun a' w' => I (listed.setIfInBounds i true) a' w') a w)
    (hend : ∀ listed a w, I listed a w → Region.ready md ops listed = [] → Q .normal a w) :
    ∀ fuel listed a w, I listed a w → openOps listed ≤ fuel → wpAny P md ops Q fuel listed a w := by
  intro fuel
  induction fuel with
  | zero =>
    intro listed a w h hf
    have hr : Region.ready md ops listed = [] := by
      rw [List.eq_nil_iff_forall_not_mem]
      intro j hj
      have := openOps_set (mem_ready.1 hj).1
      omega
    exact ⟨hr, hend _ _ _ h hr⟩
  | succ fuel ih =>
    intro listed a w h hf
    refine ⟨fun hr => hend _ _ _ h hr, fun i hi => ?_⟩
    have hlt := openOps_set (mem_ready.1 hi).1
    exact wpOp_mono (fun a' w' h' => ih _ a' w' h' (by omega)) (hstep listed a w i h hi)
/-- A region that draws, by an invariant. -/
theorem wp_region_inv {id : Nat} {a : Act} {w : World} (hm : P.follows .mixedOrders = true) (I : Array Bool → Act → World → Prop) (h0 : I (Array.replicate ops.size false) a w.drew)
    (hstep : ∀ listed a w i, I listed a w → i ∈ Region.ready .any ops listed → wpOp P ops Q i (fun a' w' => I (listed.setIfInBounds i true) a' w') a w)
    (hend : ∀ listed a w, I listed a w → Region.ready .any ops listed = [] → Q .normal a w) : (Code.region id ops true).wp P Q a w :=
  wp_region_any hm (wpAny_inv I hstep hend _ _ _ _ h0 (by
    unfold openOps
    have := List.countP_le_length (p := fun b => !b) (l := (Array.replicate ops.size false).toList)
    simpa using this))
/-- The operations that one waits for. -/
def depsOf (md : Region.Mode) (ops : Array Oper) (i : Nat) : List Nat := ((ops[i]?.map fun o => (o.after.toList.filter fun e => Region.binds md e).map (·.on)).getD [])
theorem ready_deps {i : Nat} {listed : Array Bool} (h : i ∈ Region.ready md ops listed) : i < ops.size ∧ listed.getD i true = false ∧ ∀ d ∈ depsOf md ops i, listed.getD d false = true := by
  obtain ⟨h1, o, ho, h2⟩ := mem_ready.1 h
  refine ⟨(Array.getElem?_eq_some_iff.1 ho).1, h1, fun d hd => ?_⟩
  simp only [depsOf, ho, Option.map_some, Option.getD_some, List.mem_map, List.mem_filter, Array.mem_toList_iff] at hd
  obtain ⟨e, ⟨he, hb⟩, rfl⟩ := hd
  exact h2 e he hb
theorem ready_of_deps {i : Nat} {listed : Array Bool} (hi : i < ops.size) (h1 : listed.getD i true = false) (h2 : ∀ d ∈ depsOf md ops i, listed.getD d false = true) : i ∈ Region.ready md ops listed := by
  refine mem_ready.2 ⟨h1, ops[i], Array.getElem?_eq_getElem hi, fun e he hb => h2 _ ?_⟩
  simp only [depsOf, Array.getElem?_eq_getElem hi, Option.map_some, Option.getD_some, List.mem_map, List.mem_filter, Array.mem_toList_iff]
  exact ⟨e, ⟨he, hb⟩, rfl⟩
/-- Where none may come up all have come up (nobody waits for a later one). -/
theorem all_listed {listed : Array Bool} (hb : ∀ i < ops.size, ∀ d ∈ depsOf md ops i, d < i) (hs : listed.size = ops.size) (hr : Region.ready md ops listed = []) : ∀ n, ∀ i < n, i < ops.size → listed.getD i false = true
  | 0, _, h, _ => by omega
  | n + 1, i, h, hi => by
    have ih := all_listed hb hs hr n
    by_cases hin : i < n
    · exact ih i hin hi
    · obtain rfl : i = n := by omega
      cases hv : listed.getD i true with
      | true => simpa [Array.getD, hs, hi] using hv
      | false =>
        have := ready_of_deps (md := md) hi hv (fun d hd => ih d (hb i hi d hd) (Nat.lt_trans (hb i hi d hd) hi))
        rw [hr] at this
        cases this
/-- A region that draws, by an invariant, till a state in which the rest is given. D: what each waits for. -/
theorem wp_region_until {id : Nat} {a : Act} {w : World} (D : List (List Nat)) (stop : Array Bool) (I : Array Bool → Act → World → Prop) (hm : P.follows .mixedOrders = true)
    (hD : (List.range ops.size).map (depsOf .any ops) = D) (hB : ((List.range ops.size).all fun i => (D.getD i []).all fun d => decide (d < i)) = true)
    (h0 : I (Array.replicate ops.size false) a w.drew)
    (hsz : ∀ listed a w, I listed a w → listed.size = ops.size)
    (hall : ∀ listed a w, I listed a w → ¬ ∀ i < ops.size, listed.getD i false = true)
    (hstep : ∀ listed a w i, I listed a w → listed ≠ stop → i < ops.size → listed.getD i true = false → (∀ d ∈ D.getD i [], listed.getD d false = true) → wpOp P ops Q i (fun a' w' => I (listed.setIfInBounds i true) a' w') a w)
    (hstop : ∀ a w, I stop a w → ∀ fuel, openOps stop ≤ fuel → wpAny P .any ops Q fuel stop a w) : (Code.region id ops true).wp P Q a w := by
  have hDi : ∀ i < ops.size, D.getD i [] = depsOf .any ops i := by
    intro i hi
    subst hD
    simp [hi]
  have hback : ∀ i < ops.size, ∀ d ∈ depsOf .any ops i, d < i := by
    intro i hi d hd
    have := List.all_eq_true.1 hB i (List.mem_range.2 hi)
    rw [hDi i hi] at this
    simpa using List.all_eq_true.1 this d hd
  have key : ∀ fuel listed a w, I listed a w → openOps listed ≤ fuel → wpAny P .any ops Q fuel listed a w := by
    intro fuel
    induction fuel with
    | zero =>
      intro listed a w h hf
      by_cases hs : listed = stop
      · subst hs; exact hstop _ _ h _ hf
      · exfalso
        have hr : Region.ready .any ops listed = [] := by
          rw [List.eq_nil_iff_forall_not_mem]
          intro j hj
          have := openOps_set (mem_ready.1 hj).1
          omega
        exact hall _ _ _ h (fun i hi => all_listed hback (hsz _ _ _ h) hr (i + 1) i (by omega) hi)
    | succ fuel ih =>
      intro listed a w h hf
      by_cases hs : listed = stop
      · subst hs; exact hstop _ _ h _ hf
      · refine ⟨fun hr => absurd (fun i hi => all_listed hback (hsz _ _ _ h) hr (i + 1) i (by omega) hi) (hall _ _ _ h), fun i hi => ?_⟩
        obtain ⟨r1, r2, r3⟩ := ready_deps hi
        have hlt := openOps_set r2
        exact wpOp_mono (fun a' w' h' => ih _ a' w' h' (by omega)) (hstep listed a w i h hs r1 r2 (by rw [hDi i r1]; exact r3))
  refine wp_region_any hm (key _ _ _ _ h0 ?_)
  unfold openOps
  have := List.countP_le_length (p := fun b => !b) (l := (Array.replicate ops.size false).toList)
  simpa using this
/-- The one that comes up next. -/
theorem wpAny_next {listed : Array Bool} {a : Act} {w : World} {i n fuel : Nat} {o : Oper} (hr : Region.ready md ops listed = [i]) (ho : ops[i]? = some o) (hn : openOps listed = n + 1) (hf : openOps listed ≤ fuel)
    (h : ∀ K' : Act → World → Prop, Shut (∀ a w, (∀ fuel, openOps (listed.setIfInBounds i true) ≤ fuel → wpAny P md ops Q fuel (listed.setIfInBounds i true) a w) → K' a w) → if Region.wanted o (yielded ops a.tmps) = true then Oper.wp P o a w K' Q else K' (a.put o.dst undef) w) :
    wpAny P md ops Q fuel listed a w := by
  obtain ⟨m, rfl⟩ : ∃ m, fuel = m + 1 := ⟨fuel - 1, by omega⟩
  have hlt := openOps_set (l := listed) (i := i) (mem_ready.1 (by rw [hr]; exact List.mem_singleton.2 rfl : i ∈ Region.ready md ops listed)).1
  refine wpAny_all hr (by simp) (fun j hj => ?_)
  obtain rfl := List.mem_singleton.1 hj
  refine wpOp_mono (K := fun a w => ∀ fuel, openOps (listed.setIfInBounds j true) ≤ fuel → wpAny P md ops Q fuel (listed.setIfInBounds j true) a w) (fun a' w' h' => h' m (by omega)) (wpOp_step ho (fun K' hK => h K' hK))
/-- One operation, its way back shut. -/
theorem wpOp_shut {i : Nat} {o : Oper} {K : Act → World → Prop} {a : Act} {w : World} (ho : ops[i]? = some o)
    (h : ∀ K' : Act → World → Prop, Shut (∀ a w, K a w → K' a w) → if Region.wanted o (yielded ops a.tmps) = true then Oper.wp P o a w K' Q else K' (a.put o.dst undef) w) : wpOp P ops Q i K a w :=
  wpOp_step ho (fun K' hK => h K' hK)
end
end Go.Proofs.YtgljjgmfhememaaGreatDoor
