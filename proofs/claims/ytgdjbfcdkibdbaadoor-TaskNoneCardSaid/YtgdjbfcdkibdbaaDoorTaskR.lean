/- Package task with a nil thread, one goroutine: Run's closure over a body that is known by its contract. Conditions: none. -/
import Derived.Test.YtgdjbfcdkibdbaaDoorTaskB
import Derived.StillTailTactics
namespace Go.Proofs.YtgdjbfcdkibdbaaDoor
open Go Go.RowKit
set_option maxRecDepth 100000
set_option maxHeartbeats 1000000
set_option linter.unusedSimpArgs false
theorem CellAt.drew {w : World} {b : Nat} {v : Int} (h : CellAt w b v) : CellAt w.drew b v := h
theorem CellAt.drewN {w : World} {b : Nat} {v : Int} (h : CellAt w b v) (n : Nat) : CellAt (w.drewN n) b v := h
abbrev runW (w : World) (b : Nat) : World := (w.alloc (.cells #[.pointer (some ⟨b, 0, none⟩)] 22)).alloc (.cells #[.pointer none] 38)
/-- What stands while a task's own body runs: Run's two variables, the task. -/
structure RunS (w : World) (n b : Nat) (cs : Array Value) : Prop where
  box : Blk w n #[.pointer (some ⟨b, 0, none⟩)] 22
  thr : Blk w (n + 1) #[.pointer none] 38
  blk : Blk w b cs 29
theorem RunS.chg {S : Nat → Prop} {w w' : World} {n b : Nat} {cs : Array Value} (h : RunS w n b cs) (hc : Chg S w w') (h1 : ¬ S n) (h2 : ¬ S (n + 1)) (h3 : ¬ S b) : RunS w' n b cs := ⟨hc.blk h.box h1, hc.blk h.thr h2, hc.blk h.blk h3⟩
theorem RunS.drew {w : World} {n b : Nat} {cs : Array Value} (h : RunS w n b cs) : RunS w.drew n b cs := ⟨h.box, h.thr, h.blk⟩
theorem run1_value (w : World) (n b F : Nat) (cap : Array Value) (R : World → Prop) (cs : Array Value)
    (h : RunS w n b cs) (hcs : cs[2]? = some (.func (.func F) #[] cap))
    (hE : ∀ a w, (callFunc F (#[a] ++ cap)).run Tryd.prog w = .ok (.enter F (#[a] ++ cap)) w)
    (v : Int) (u : Value)
    (hf : Calls Tryd.prog F (#[.pointer none] ++ cap) w.drew fun e w' => e = .returned (.tuple #[.int .i64 v, u]) ∧ RunS w' n b cs ∧ R w') :
    Calls Tryd.prog 66 #[.pointer (some ⟨n, 0, none⟩), .pointer (some ⟨n + 1, 0, none⟩)] w fun e w' => e = .returned (.tuple #[.int .i64 v, u]) ∧ R w' := by
  have c1 := h.box.cellAt 0 (v := .pointer (some ⟨b, 0, none⟩)) rfl
  have c2 := h.thr.cellAt 0 (v := .pointer none) rfl
  have c3 := h.blk.cellAt 2 hcs
  clear h
  go_enter Tryd.func66, Tryd.ntmps66
  go_wp2_with fail
  go_region_held3 (fun w' => w'.cell? ⟨n, 0, none⟩ = some (.pointer (some ⟨b, 0, none⟩)) ∧ w'.cell? ⟨n + 1, 0, none⟩ = some (.pointer none) ∧ w'.cell? ⟨b, 2, none⟩ = some (.func (.func F) #[] cap)) (go_keep)
    (first | (refine (hf).mono ?_; rintro e w' ⟨rfl, g, hr⟩; have d1 := g.box.cellAt 0 (v := .pointer (some ⟨b, 0, none⟩)) rfl; have d2 := g.thr.cellAt 0 (v := .pointer none) rfl; have d3 := g.blk.cellAt 2 hcs))
  go_wp2_with fail
  go_ret2
  exact ⟨rfl, hr⟩
theorem run1_panic (w : World) (n b F : Nat) (cap : Array Value) (R : World → Prop) (cs : Array Value)
    (h : RunS w n b cs) (hcs : cs[2]? = some (.func (.func F) #[] cap))
    (hE : ∀ a w, (callFunc F (#[a] ++ cap)).run Tryd.prog w = .ok (.enter F (#[a] ++ cap)) w)
    (u : TypeId) (x : Value)
    (hf : Calls Tryd.prog F (#[.pointer none] ++ cap) w.drew fun e w' => e = .panicked [{ v := .iface u x, recovered := false }] ∧ RunS w' n b cs ∧ R w') :
    Calls Tryd.prog 66 #[.pointer (some ⟨n, 0, none⟩), .pointer (some ⟨n + 1, 0, none⟩)] w fun e w' => e = .panicked [{ v := .iface u x, recovered := false }] ∧ R w' := by
  have c1 := h.box.cellAt 0 (v := .pointer (some ⟨b, 0, none⟩)) rfl
  have c2 := h.thr.cellAt 0 (v := .pointer none) rfl
  have c3 := h.blk.cellAt 2 hcs
  clear h
  go_enter Tryd.func66, Tryd.ntmps66
  go_wp2_with fail
  have hS : (fun w' : World => w'.cell? ⟨n, 0, none⟩ = some (.pointer (some ⟨b, 0, none⟩)) ∧ w'.cell? ⟨n + 1, 0, none⟩ = some (.pointer none) ∧ w'.cell? ⟨b, 2, none⟩ = some (.func (.func F) #[] cap)) w.drew := ⟨c1, c2, c3⟩
  refine wp_region_held (S := fun w' : World => w'.cell? ⟨n, 0, none⟩ = some (.pointer (some ⟨b, 0, none⟩)) ∧ w'.cell? ⟨n + 1, 0, none⟩ = some (.pointer none) ∧ w'.cell? ⟨b, 2, none⟩ = some (.func (.func F) #[] cap)) (by kernel_rfl) ?_
  change wpAnyH _ _ _ _ _ _ _ _ w.drew
  refine wpAnyH_take (i := 0) (v := ?_) rfl (by kernel_rfl) (by kernel_rfl) (by kernel_rfl) (fun _ _ _ h => h) (Or.inl ⟨by rfl, ?_⟩) (by assumption) ?_
  rotate_left
  · intro w hSw
    obtain ⟨s1, s2, s3⟩ := hSw
    go_simp
    try rfl
  simp only [List.getElem_toArray, List.getElem_cons_succ, List.getElem_cons_zero, Act.put, List.setIfInBounds_toArray, List.set_cons_zero, List.set_cons_succ]
  refine wpAnyH_take (i := 1) (v := ?_) rfl (by kernel_rfl) (by kernel_rfl) (by kernel_rfl) (fun _ _ _ h => h) (Or.inl ⟨by rfl, ?_⟩) (by assumption) ?_
  rotate_left
  · intro w hSw
    obtain ⟨s1, s2, s3⟩ := hSw
    go_simp
    try rfl
  simp only [List.getElem_toArray, List.getElem_cons_succ, List.getElem_cons_zero, Act.put, List.setIfInBounds_toArray, List.set_cons_zero, List.set_cons_succ]
  refine wpAnyH_take (i := 2) (v := ?_) rfl (by kernel_rfl) (by kernel_rfl) (by kernel_rfl) (fun _ _ _ h => h) (Or.inl ⟨by rfl, ?_⟩) (by assumption) ?_
  rotate_left
  · intro w hSw
    obtain ⟨s1, s2, s3⟩ := hSw
    go_simp
    try rfl
  simp only [List.getElem_toArray, List.getElem_cons_succ, List.getElem_cons_zero, Act.put, List.setIfInBounds_toArray, List.set_cons_zero, List.set_cons_succ]
  refine wpAnyH_take (i := 3) (v := ?_) rfl (by kernel_rfl) (by kernel_rfl) (by kernel_rfl) (fun _ _ _ h => h) (Or.inl ⟨by rfl, ?_⟩) (by assumption) ?_
  rotate_left
  · intro w hSw
    obtain ⟨s1, s2, s3⟩ := hSw
    go_simp
    try rfl
  simp only [List.getElem_toArray, List.getElem_cons_succ, List.getElem_cons_zero, Act.put, List.setIfInBounds_toArray, List.set_cons_zero, List.set_cons_succ]
  refine wpAnyH_take (i := 4) (v := ?_) rfl (by kernel_rfl) (by kernel_rfl) (by kernel_rfl) (fun _ _ _ h => h) (Or.inl ⟨by rfl, ?_⟩) (by assumption) ?_
  rotate_left
  · intro w hSw
    obtain ⟨s1, s2, s3⟩ := hSw
    go_simp
    try rfl
  simp only [List.getElem_toArray, List.getElem_cons_succ, List.getElem_cons_zero, Act.put, List.setIfInBounds_toArray, List.set_cons_zero, List.set_cons_succ]
  refine wpAnyH_ready (rs := [5]) (by kernel_rfl) (by simp) ?_
  refine AllReadyH.cons rfl (fun K hK => ?_) AllReadyH.nil
  go_wp2_with fail
  refine hf.mono ?_
  rintro e w' ⟨rfl, g, hr⟩
  exact ⟨rfl, rfl, hr⟩
end Go.Proofs.YtgdjbfcdkibdbaaDoor
