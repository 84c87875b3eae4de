/- list.List of a token's entries with a nil thread: Close where one function stands. Conditions: none. -/
import Derived.Test.YtgljjgmfhememaaGreatDoorTok
namespace Go.Proofs.YtgljjgmfhememaaGreatDoor
open Go Go.RowKit
set_option maxRecDepth 100000
set_option maxHeartbeats 2000000
theorem reverse_e_one (w : World) (a : Addr) (c : Nat) : Calls Tryz.prog 199 #[.slice (some a) 1 c] w fun e w' => e = .returned (.tuple #[]) ∧ w = w' := by
  go_enter Tryz.func199, Tryz.ntmps199
  go_wp2_with fail
  refine wp_loop_rounds 1 ?_; rw [rounds_succ]
  go_wp2_with fail
  go_end0
  exact ⟨rfl, rfl⟩
theorem elist_row_one (w : World) (b lb hb pb : Nat) (last head : Int) (pl : Array Value) (F : Nat) (cap : Array Value) (h : EList w b lb hb pb last head pl) (e3 : pl[3]? = some (.pointer none)) (e4 : pl[4]? = some (.func (.func F) #[] cap)) (e5 : pl[5]? = some (.int .i64 0)) : Calls Tryz.prog 171 #[.pointer (some ⟨b, 0, none⟩), .int .i64 1] w fun e w' => ∃ rb c, e = .returned (.slice (some ⟨rb, 0, none⟩) 1 c) ∧ (w'.cell? ⟨rb, 0, none⟩ = some (.pointer none) ∧ w'.cell? ⟨rb, 1, none⟩ = some (.func (.func F) #[] cap)) ∧ w.heap.size ≤ rb ∧ Same w w' := by
  have c2 := h.blk.cellAt 2 (v := .slice (some ⟨pb, 0, none⟩) 65 65) rfl
  have s3 := h.places.cellAt 3 e3
  have s4 := h.places.cellAt 4 e4
  have s5 := h.places.cellAt 5 e5
  have HH := Lib.hid h
  clear h
  obtain ⟨i0, hi, hz0, hz1, hz2⟩ := info_parts (P := Tryz.prog) (e := 146) (z := .agg #[.pointer none, .nilFunc]) (size := 2) (bytes := 16) (by kernel_rfl)
  go_enter Tryz.func171, Tryz.ntmps171
  go_wp2_with fail
  refine wp_loop_rounds 2 ?_; rw [rounds_succ]
  go_wp2_with (at_builtin; refine wpList_append_own _ rfl _ _ 205 rfl w.heap.size 146 i0 (.agg #[.pointer none, .nilFunc]) 2 16 Tryz.underlying205 hi hz0 hz1 hz2 rfl (by decide) _ _ _ rfl (World.ownsRow_nil _ _ _ _) ⟨w.heap.size, 0, none⟩ 1 1 [.pointer none, .func (.func F) #[] cap] rfl rfl ?c1 ?c2 ?c3 ?c4 ?c5 ?c6)
  case c1 =>
    intro j u hj
    rcases j with _ | _ | j
    · simp at hj; subst hj; exact (Blk.new w _ _).cellAt 0 rfl
    · simp at hj; subst hj; exact (Blk.new w _ _).cellAt 1 rfl
    · simp at hj
  case c2 => intro u hu; simp at hu; rcases hu with rfl | rfl <;> rfl
  case c3 => decide
  case c4 => decide
  case c5 => simp
  case c6 =>
    intro v' w' ho hg hn
    obtain ⟨_, ⟨rfl, _⟩ | ⟨g, c, cur, rfl, hgb, hcell, _, _, hcs, htk⟩⟩ := ho
    · exact absurd rfl hn
    have hs : Same w w' := (Chg.alloc (Chg.refl _ _) _).trans (Chg.of_grown hg)
    have hB : Blk w' g cur 146 := hcell
    have g0 : cur[0]? = some (.pointer none) := by
      rw [← Array.getElem?_toList]
      have := congrArg (fun l : List Value => l[0]?) htk
      simpa using this
    have g1 : cur[1]? = some (.func (.func F) #[] cap) := by
      rw [← Array.getElem?_toList]
      have := congrArg (fun l : List Value => l[1]?) htk
      simpa using this
    have h' : EList w' b lb hb pb last head pl := HH.out.chg hs (fun x => x) (fun x => x) (fun x => x) (fun x => x)
    have d2 := h'.blk.cellAt 2 (v := .slice (some ⟨pb, 0, none⟩) 65 65) rfl
    have d5 := h'.places.cellAt 5 e5
    have HE := Lib.hid (And.intro (hB.cellAt 0 g0) (And.intro (hB.cellAt 1 g1) hs))
    clear c2 s3 s4 s5 hB g0 g1 h' hs htk hcs hcell hg
    go_wp2_with fail
    rw [rounds_succ]
    go_wp2_with fail
    refine (reverse_e_one _ _ _).mono ?_
    rintro e w2 ⟨rfl, rfl⟩
    go_wp2_with fail
    go_ret
    exact ⟨g, c, rfl, ⟨HE.out.1, HE.out.2.1⟩, hgb, HE.out.2.2⟩
theorem elist_close_one (w : World) (b lb hb pb : Nat) (last : Int) (pl : Array Value) (F : Nat) (cap : Array Value) (h : EList w b lb hb pb last 1 pl) (e3 : pl[3]? = some (.pointer none)) (e4 : pl[4]? = some (.func (.func F) #[] cap)) (e5 : pl[5]? = some (.int .i64 0)) :
    Calls Tryz.prog 110 #[.pointer (some ⟨b, 0, none⟩), .pointer none] w fun e w' => ∃ rb c, e = .returned (.tuple #[.slice (some ⟨rb, 0, none⟩) 1 c, .int .i64 0]) ∧ EList w' b lb hb pb last (-1) pl ∧ (w'.cell? ⟨rb, 0, none⟩ = some (.pointer none) ∧ w'.cell? ⟨rb, 1, none⟩ = some (.func (.func F) #[] cap)) ∧ w.heap.size ≤ rb ∧ Chg (· = hb) w w' := by
  have n2 : b ≠ hb := h.blk.ne h.chead (by decide)
  have n5 : hb ≠ pb := h.chead.ne h.places (by decide)
  have hne := h.ne
  have c1 := h.blk.cellAt 1 (v := .pointer (some ⟨hb, 0, none⟩)) rfl
  go_enter Tryz.func110, Tryz.ntmps110
  go_wp2_with (first | (go_at_call 169; refine (elist_made _ _ _ _ h.blk rfl).mono ?_; rintro e w' ⟨rfl, rfl⟩))
  refine (swap_ok _ _ _ _ h.chead).mono ?_
  rintro e w1 ⟨rfl, q1, q2⟩
  have h1 : EList w1 b lb hb pb last (-1) pl := ⟨q2.blk h.blk n2, q2.blk h.clast hne, q1, q2.blk h.places (Ne.symm n5), h.size, hne⟩
  clear c1
  go_wp2_with fail
  refine (elist_row_one _ _ _ _ _ _ _ _ _ _ h1 e3 e4 e5).mono ?_
  rintro e w2 ⟨rb, c, rfl, k1, k2, k3⟩
  have K1 := Lib.hid k1
  clear k1
  go_wp2_with fail
  go_ret2
  exact ⟨rb, c, rfl, h1.chg k3 (fun x => x) (fun x => x) (fun x => x) (fun x => x), K1.out, Nat.le_trans q2.size k2, q2.trans' k3 (fun _ _ e => e.elim)⟩
/-- A token: its reason's cell at s, its list at l. -/
structure TokAt (w : World) (b s l lb hb pb : Nat) (reason : Int) (last head : Int) (pl : Array Value) (depth : Int) : Prop where
  blk : Blk w b #[.pointer (some ⟨s, 0, none⟩), .pointer (some ⟨l, 0, none⟩), .int .i64 depth] 65
  cell : CellAt w s reason
  list : EList w l lb hb pb last head pl
  n1 : s ≠ lb
  n2 : s ≠ hb
theorem TokAt.chg {S : Nat → Prop} {w w' : World} {b s l lb hb pb : Nat} {reason last head depth : Int} {pl : Array Value} (h : TokAt w b s l lb hb pb reason last head pl depth) (hc : Chg S w w') (h1 : ¬ S b) (h2 : ¬ S s) (h3 : ¬ S l) (h4 : ¬ S lb) (h5 : ¬ S hb) (h6 : ¬ S pb) : TokAt w' b s l lb hb pb reason last head pl depth :=
  ⟨hc.blk h.blk h1, hc.blk h.cell h2, h.list.chg hc h3 h4 h5 h6, h.n1, h.n2⟩
theorem tok_made (w : World) (b s : Nat) (cs : Array Value) (hb : Blk w b cs 65) (h3 : cs[0]? = some (.pointer (some ⟨s, 0, none⟩))) : Calls Tryz.prog 83 #[.pointer (some ⟨b, 0, none⟩)] w fun e w' => e = .returned (.bool true) ∧ w = w' := by
  have c3 := hb.cellAt 0 h3
  clear hb h3
  go_enter Tryz.func83, Tryz.ntmps83
  go_wp2
  go_ret
  exact ⟨rfl, rfl⟩
theorem tok_made_bare (w : World) (b : Nat) (cs : Array Value) (hb : Blk w b cs 65) (h3 : cs[0]? = some (.pointer none)) : Calls Tryz.prog 83 #[.pointer (some ⟨b, 0, none⟩)] w fun e w' => e = .returned (.bool false) ∧ w = w' := by
  have c3 := hb.cellAt 0 h3
  clear hb h3
  go_enter Tryz.func83, Tryz.ntmps83
  go_wp2
  go_ret
  exact ⟨rfl, rfl⟩
end Go.Proofs.YtgljjgmfhememaaGreatDoor
