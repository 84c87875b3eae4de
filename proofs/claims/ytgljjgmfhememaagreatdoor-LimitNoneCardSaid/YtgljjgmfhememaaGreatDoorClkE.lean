/- (*clock.Clock).Advance with a nil thread: all whose time has come ring, the earliest first. Conditions: none. -/
import Derived.Test.YtgljjgmfhememaaGreatDoorClkD
namespace Go.Proofs.YtgljjgmfhememaaGreatDoor
open Go Go.RowKit
set_option maxRecDepth 100000
set_option maxHeartbeats 2000000
variable {w : World} {N : Nat} {now busy : Int} {st due : Nat → Int} {fs : Nat → Value}
/-- The states behind these rings. -/
def stA (st : Nat → Int) (l : List Nat) (i : Nat) : Int := if i ∈ l then st i + 2 else st i
theorem stA_nil : stA st [] = st := by funext i; simp [stA]
theorem stA_snoc (l : List Nat) (j : Nat) (hj : ¬ j ∈ l) : upd (stA st l) j (st j + 2) = stA st (l ++ [j]) := by
  funext i
  unfold upd stA
  by_cases hij : i = j
  · subst hij; simp
  · simp [hij]
theorem length_le_of_nodup : ∀ (n : Nat) (l : List Nat), l.Nodup → (∀ i ∈ l, i < n) → l.length ≤ n
  | 0, l, _, hl => by
    cases l with
    | nil => simp
    | cons x xs => exact absurd (hl x (by simp)) (by omega)
  | n + 1, l, hd, hl => by
    have ih := length_le_of_nodup n (l.erase n) (hd.erase n) (fun i hi => by
      have h1 := (hd.mem_erase_iff).1 hi
      have := hl i h1.2
      have := h1.1
      omega)
    by_cases hn : n ∈ l
    · have := List.length_erase_of_mem hn; omega
    · rw [List.erase_of_not_mem hn] at ih; omega
/-- What one ring does. -/
def Rings (N : Nat) (SI : Nat → Prop) (T : Int) (st due : Nat → Int) (fs : Nat → Value) (I : List Nat → World → Prop) : Prop :=
  ∀ (l : List Nat) (j : Nat) (W : World), l.Nodup → (∀ i ∈ l, i < 16 ∧ Cand st due T i) → ¬ j ∈ l → Best (stA st l) due T 16 (some j) → I l W → Clk W N T 1 (upd (stA st l) j (st j + 1)) due fs →
    ∃ F cap, fs j = .func (.func F) #[] cap ∧ (∀ a w, (callFunc F (#[a] ++ cap)).run Tryz.prog w = .ok (.enter F (#[a] ++ cap)) w) ∧
      Calls Tryz.prog F (#[.pointer none] ++ cap) W fun e W' => e = .returned (.tuple #[]) ∧ I (l ++ [j]) W' ∧ Clk W' N T 1 (upd (stA st l) j (st j + 1)) due fs ∧ Chg SI W W'
/-- What Advance tells. -/
def AdvPost (N : Nat) (T : Int) (st due : Nat → Int) (fs : Nat → Value) (I : List Nat → World → Prop) (e : Ending) (w' : World) : Prop :=
  ∃ l : List Nat, e = .returned (.tuple #[.int .i64 l.length, .int .i64 0]) ∧ l.Nodup ∧ (∀ i ∈ l, i < 16 ∧ Cand st due T i) ∧ Best (stA st l) due T 16 none ∧ I l w' ∧ Clk w' N T 0 (stA st l) due fs
structure AdvS (B : Nat) (wr : World) (N : Nat) (T : Int) (st due : Nat → Int) (fs : Nat → Value) (I : List Nat → World → Prop) (l : List Nat) : Prop where
  clk : Clk wr N T 1 (stA st l) due fs
  inv : I l wr
  nodup : l.Nodup
  cand : ∀ i ∈ l, i < 16 ∧ Cand st due T i
  size : B ≤ wr.heap.size
theorem AdvS.len {B : Nat} {wr : World} {T : Int} {I : List Nat → World → Prop} {l : List Nat} (h : AdvS B wr N T st due fs I l) : l.length ≤ 16 := length_le_of_nodup 16 l h.nodup (fun i hi => (h.cand i hi).1)
theorem best_new {T : Int} {l : List Nat} {j : Nat} (hc : ∀ i ∈ l, i < 16 ∧ Cand st due T i) (hb : Best (stA st l) due T 16 (some j)) : ¬ j ∈ l ∧ Cand st due T j ∧ j < 16 ∧ stA st l j = st j := by
  obtain ⟨h1, ⟨h2, h3⟩, _⟩ := hb
  have hj : ¬ j ∈ l := fun hj => by
    have := (hc j hj).2.1
    unfold stA at h2
    rw [if_pos hj] at h2
    omega
  have e : stA st l j = st j := by unfold stA; rw [if_neg hj]
  exact ⟨hj, ⟨by rw [← e]; exact h2, h3⟩, h1, e⟩
theorem clk_advance (h : Clk w N now 0 st due fs) (h0 : ∀ i, i < 16 → 0 ≤ st i ∧ st i ≤ 1000000) (n0 : 0 ≤ now ∧ now ≤ 4611686018427387904) (d : Int) (d0 : 0 ≤ d) (d1 : d ≤ 9223372036854775807) (T : Int) (hT : T = now + min d (4611686018427387904 - now))
    (I : List Nat → World → Prop) (hI : ∀ l W W', I l W → Chg (Turned N) W W' → I l W') (h1 : I [] w) (SI : Nat → Prop) (hSI : ∀ k, SI k → k < w.heap.size) (hR : Rings N SI T st due fs I) :
    Calls Tryz.prog 24 #[.pointer (some ⟨N + 2, 0, none⟩), .pointer none, .int .i64 d] w (AdvPost N T st due fs I) := by
  obtain ⟨cs, hB, _, c0, c1, _⟩ := h.blk
  have p0 := hB.cellAt 0 c0
  have p1 := hB.cellAt 1 c1
  have e0 : decide (d < 0) = false := decide_eq_false (by omega)
  have hlt := h.lt
  have H := Lib.hid (And.intro h (And.intro hI (And.intro h1 hR)))
  have H0 := Lib.hid h0
  have HB := Lib.hid (And.intro hB (And.intro c0 c1))
  have HT := Lib.hid hT
  clear h h0 hI h1 hR hB c0 c1 hT
  go_enter Tryz.func24, Tryz.ntmps24
  go_wp2_with fail
  refine (clk_made H.out.1).mono ?_
  rintro e _ ⟨rfl, rfl⟩
  go_wp2_with fail
  refine (cas_ok _ _ _ _ H.out.1.busy).mono ?_
  rintro e w1 ⟨rfl, q1, q2⟩
  have hK1 : Clk w1 N now 1 st due fs := by
    obtain ⟨cs, hB, hr⟩ := H.out.1.blk
    exact ⟨⟨cs, q2.blk hB (by omega), hr⟩, H.out.1.now.chg q2 (by omega), q1, fun i hi => (H.out.1.st i hi).chg q2 (by omega), fun i hi => (H.out.1.due i hi).chg q2 (by omega)⟩
  have hc1 : Chg (Turned N) w w1 := q2.mono (fun i _ e => by have e : i = N + 1 := e; unfold Turned; omega)
  have k0 := (q2.blk HB.out.1 (by omega)).cellAt 0 HB.out.2.1
  have H1 := Lib.hid (And.intro hK1 hc1)
  clear q1 q2 hK1 hc1 p0 p1
  go_wp2_with fail
  refine (cell_load_at _ _ _ H1.out.1.now).mono ?_
  rintro e _ ⟨rfl, rfl⟩
  have w1' : IntKind.i64.wrap (4611686018427387904 - now) = 4611686018427387904 - now := by rw [IntKind.wrap_i64]; omega
  have hTd : (d < 4611686018427387904 - now ∧ now + d = T) ∨ (d = 4611686018427387904 - now ∧ now + (4611686018427387904 - now) = T) ∨ (4611686018427387904 - now < d ∧ now + (4611686018427387904 - now) = T) := by have := HT.out; omega
  have hT0 : 0 ≤ T ∧ T ≤ 4611686018427387904 := by have := HT.out; omega
  rcases hTd with ⟨hd, he⟩ | ⟨hd, he⟩ | ⟨hd, he⟩
  all_goals
    have HE := Lib.hid he
    clear he
    go_wp2_with fail
  all_goals
    rw [HE.out]
    clear w1'
    refine (store_ok _ _ _ T H1.out.1.now).mono ?_
    rintro e w2 ⟨rfl, q1, q2⟩
    have hK2 : Clk w2 N T 1 st due fs := by
      obtain ⟨cs, hB, hr⟩ := H1.out.1.blk
      exact ⟨⟨cs, q2.blk hB (by omega), hr⟩, q1, H1.out.1.busy.chg q2 (by omega), fun i hi => (H1.out.1.st i hi).chg q2 (by omega), fun i hi => (H1.out.1.due i hi).chg q2 (by omega)⟩
    have hc2 : Chg (Turned N) w w2 := H1.out.2.trans (q2.mono (fun i _ e => by have e : i = N := e; unfold Turned; omega))
    have hS : AdvS w.heap.size w2 N T st due fs I [] := ⟨by rw [stA_nil]; exact hK2, H.out.2.1 _ _ _ H.out.2.2.1 hc2, List.nodup_nil, (fun i hi => by cases hi), hc2.size⟩
    have HS := Lib.hid hS
    clear q1 q2 hK2 hc2 hS k0
    go_wp2_with fail
    go_loopw [9] (fun r wr => ∃ l : List Nat, r = .int .i64 l.length ∧ AdvS w.heap.size wr N T st due fs I l) (fun r _ => 17 - (intOf r).toNat)
    case atStart => exact ⟨[], rfl, HS.out⟩
    case round =>
      obtain ⟨l, rfl, hS⟩ := hrel
      rename World => wr
      have hll := hS.len
      have HSR := Lib.hid hS
      clear hS
      have hlook := clk_look HSR.out.clk (fun i hi => by have := H0.out i hi; unfold stA; split <;> omega) T
      have HLK := Lib.hid hlook
      clear hlook
      go_wp2_with fail
      refine HLK.out.mono ?_
      rintro e w3 ⟨o, hbest, he, hsame⟩
      have HO := Lib.hid (And.intro hbest hsame)
      clear hbest hsame HLK
      have hck3 := HSR.out.clk.chg HO.out.2 (fun _ _ _ x => x)
      cases o with
      | none =>
        simp only at he
        subst he
        obtain ⟨cs3, hB3, _, _, b1, _⟩ := hck3.blk
        have p1 := hB3.cellAt 1 b1
        have plt := hB3.lt
        have HCK := Lib.hid hck3
        clear hB3 b1 hck3
        go_wp2_with fail
        have hckA := HCK.out.chg (S := fun _ => False) ((Chg.refl _ w3).alloc (.cells #[.int .i64 0, .int .i64 0] 151)) (fun _ _ _ x => x)
        have sA : Same wr (w3.alloc (.cells #[.int .i64 0, .int .i64 0] 151)) := HO.out.2.alloc _
        generalize w3.alloc (.cells #[.int .i64 0, .int .i64 0] 151) = WA at *
        clear p1 plt
        refine (store_ok _ _ _ 0 hckA.busy).mono ?_
        rintro e w4 ⟨rfl, q1, q2⟩
        have hK4 : Clk w4 N T 0 (stA st l) due fs := by
          obtain ⟨cs, hB, hr⟩ := hckA.blk
          exact ⟨⟨cs, q2.blk hB (by omega), hr⟩, hckA.now.chg q2 (by omega), q1, fun i hi => (hckA.st i hi).chg q2 (by omega), fun i hi => (hckA.due i hi).chg q2 (by omega)⟩
        have hc4 : Chg (Turned N) wr w4 := (sA.mono (fun _ _ x => x.elim)).trans (q2.mono (fun i _ e => by have e : i = N + 1 := e; unfold Turned; omega))
        have HF := Lib.hid (And.intro hK4 hc4)
        clear hckA sA q1 q2 hK4 hc4
        go_wp2_with fail
        go_ret2
        exact ⟨l, rfl, HSR.out.nodup, HSR.out.cand, HO.out.1, H.out.2.1 _ _ _ HSR.out.inv HF.out.2, HF.out.1⟩
      | some j =>
        simp only at he
        subst he
        obtain ⟨hjl, hcj, hj16, hsj⟩ := best_new HSR.out.cand HO.out.1
        have h64 : ((l.length : Int) == 64) = false := beq_eq_false_iff_ne.2 (by omega)
        have hx0 := H0.out j hj16
        rw [hsj]
        have HJ := Lib.hid (And.intro hjl (And.intro hcj hsj))
        clear hjl hcj hsj
        have b0 : (0 : Int) ≤ (j : Int) := by omega
        have b1 : (j : Int) < 16 := by omega
        have hckA := hck3.chg (S := fun _ => False) ((Chg.refl _ w3).alloc (.cells #[.int .i64 j, .int .i64 (st j)] 151)) (fun _ _ _ x => x)
        have sA : Same wr (w3.alloc (.cells #[.int .i64 j, .int .i64 (st j)] 151)) := HO.out.2.alloc _
        have hTm : Blk (w3.alloc (.cells #[.int .i64 j, .int .i64 (st j)] 151)) w3.heap.size #[.int .i64 j, .int .i64 (st j)] 151 := Blk.new _ _ _
        have hr34 := hck3.lt
        have hrB : w.heap.size ≤ w3.heap.size := Nat.le_trans HSR.out.size HO.out.2.size
        have HCA := Lib.hid (And.intro hckA (And.intro sA hTm))
        clear hck3 hckA sA hTm
        go_wp2_with fail
        generalize w3.alloc (.cells #[.int .i64 j, .int .i64 (st j)] 151) = WA at *
        generalize w3.heap.size = r at *
        have r0 := HCA.out.2.2.cellAt 0 (v := .int .i64 j) rfl
        have r1 := HCA.out.2.2.cellAt 1 (v := .int .i64 (st j)) rfl
        go_quiet (fail)
        clear r0 r1
        obtain ⟨csA, hBA, a0, a1, a2⟩ := HCA.out.1.slot hj16
        have v1 : IntKind.i64.wrap (st j + 3) = st j + 3 := by rw [IntKind.wrap_i64]; omega
        have v2 : IntKind.i64.wrap (st j + 3 - 2) = st j + 1 := by rw [IntKind.wrap_i64]; omega
        have hcas : ∀ V, Same WA V → Calls Tryz.prog 79 #[.pointer (some ⟨N + 3 + 2 * j, 0, none⟩), .pointer none, .int .i64 (st j), .int .i64 (st j + 1)] V fun e V' => e = .returned (.bool true) ∧ CellAt V' (N + 3 + 2 * j) (st j + 1) ∧ Chg (· = N + 3 + 2 * j) V V' := fun V sV => by
          have := (HCA.out.1.st j hj16).chg sV (fun x => x)
          rw [HJ.out.2.2] at this
          exact cas_ok V _ _ _ this
        have HCAS := Lib.hid hcas
        have HBA := Lib.hid (And.intro hBA a0)
        have d0 := hBA.cellAt _ a0
        have r1 := HCA.out.2.2.cellAt 1 (v := .int .i64 (st j)) rfl
        clear hcas hBA a0 a1 a2
        go_wp2_with fail
        go_region_held3 (fun w' => w'.cell? ⟨N + 2, 2 + j * 3, none⟩ = some (.pointer (some ⟨N + 3 + 2 * j, 0, none⟩)) ∧ w'.cell? ⟨r, 1, none⟩ = some (.int .i64 (st j))) (go_keep)
          (first | (go_at_call 79; refine (HCAS.out _ (by first | exact ((Chg.refl _ WA).drewN _).drew | exact (Chg.refl _ WA).drewN _)).mono ?_; rintro e W1 ⟨rfl, q1, q2⟩; have q3 := (Chg.drew (Chg.drewN (Chg.refl (fun i => i = N + 3 + 2 * j) WA) _)).trans q2; have t1 := (q3.blk HBA.out.1 (by omega)).cellAt _ HBA.out.2; have t2 := (q3.blk HCA.out.2.2 (by omega)).cellAt 1 (v := .int .i64 (st j)) rfl))
        have hckB : Clk W1 N T 1 (upd (stA st l) j (st j + 1)) due fs := HCA.out.1.setSt hj16 q3 q1
        have hcB : Chg (Turned N) wr W1 := (HCA.out.2.1.mono (fun _ _ x => x.elim)).trans (q3.mono (fun i _ e => by have e : i = _ := e; unfold Turned; omega))
        have hTB := q3.blk HCA.out.2.2 (by omega)
        obtain ⟨F, cap, hfj, hE, hcall⟩ := H.out.2.2.2 l j W1 HSR.out.nodup HSR.out.cand HJ.out.1 HO.out.1 (H.out.2.1 _ _ _ HSR.out.inv hcB) hckB
        obtain ⟨csB, hBB, a0, a1, a2⟩ := hckB.slot hj16
        rw [hfj] at a2
        have f2 := hBB.cellAt _ a2
        have hEn := hE (.pointer none)
        have HCALL := Lib.hid hcall
        have HKB := Lib.hid (And.intro hckB (And.intro hcB hTB))
        clear q1 q2 q3 t1 t2 d0 r1 v1 v2 hckB hcB hTB hfj hE hcall hBB a0 a1 a2
        go_wp2_with fail
        refine HCALL.out.mono ?_
        rintro e W2 ⟨rfl, hI2, hck2, hc2⟩
        have hTC := hc2.blk HKB.out.2.2 (fun e => by have := hSI _ e; omega)
        obtain ⟨csC, hBC, a0, a1, a2⟩ := hck2.slot hj16
        have d0 := hBC.cellAt _ a0
        have r1 := hTC.cellAt 1 (v := .int .i64 (st j)) rfl
        have v1 : IntKind.i64.wrap (st j + 4) = st j + 4 := by rw [IntKind.wrap_i64]; omega
        have v2 : IntKind.i64.wrap (st j + 4 - 2) = st j + 2 := by rw [IntKind.wrap_i64]; omega
        have hsto : ∀ V, Same W2 V → Calls Tryz.prog 80 #[.pointer (some ⟨N + 3 + 2 * j, 0, none⟩), .pointer none, .int .i64 (st j + 2)] V fun e V' => e = .returned (.tuple #[]) ∧ CellAt V' (N + 3 + 2 * j) (st j + 2) ∧ Chg (· = N + 3 + 2 * j) V V' := fun V sV => by
          have := (hck2.st j hj16).chg sV (fun x => x)
          exact store_ok V _ _ _ this
        have HSTO := Lib.hid hsto
        have HBC := Lib.hid (And.intro hBC (And.intro a0 hTC))
        have HKC := Lib.hid (And.intro hI2 (And.intro hck2 hc2))
        clear hTC hBC a0 a1 a2 hsto hI2 hck2 hc2 f2 hEn HCALL
        go_wp2_with fail
        go_region_held3 (fun w' => w'.cell? ⟨N + 2, 2 + j * 3, none⟩ = some (.pointer (some ⟨N + 3 + 2 * j, 0, none⟩)) ∧ w'.cell? ⟨r, 1, none⟩ = some (.int .i64 (st j))) (go_keep)
          (first | (go_at_call 80; refine (HSTO.out _ (by first | exact (Chg.refl _ W2).drew | exact (Chg.refl _ W2).drewN _)).mono ?_; rintro e W3 ⟨rfl, q1, q2⟩; have q3 := (Chg.drew (Chg.refl (fun i => i = N + 3 + 2 * j) W2)).trans q2; have t1 := (q3.blk HBC.out.1 (by omega)).cellAt _ HBC.out.2.1; have t2 := (q3.blk HBC.out.2.2 (by omega)).cellAt 1 (v := .int .i64 (st j)) rfl))
        have hckD : Clk W3 N T 1 (stA st (l ++ [j])) due fs := by
          have := HKC.out.2.1.setSt hj16 q3 q1
          rw [upd_upd, stA_snoc l j HJ.out.1] at this
          exact this
        have hcD : Chg (Turned N) W2 W3 := q3.mono (fun i _ e => by have e : i = _ := e; unfold Turned; omega)
        have hSD : AdvS w.heap.size W3 N T st due fs I (l ++ [j]) := ⟨hckD, H.out.2.1 _ _ _ HKC.out.1 hcD, by
          rw [List.nodup_append]
          exact ⟨HSR.out.nodup, by simp, fun a ha b hb => by
            obtain rfl := List.mem_singleton.1 hb
            intro e
            exact HJ.out.1 (e ▸ ha)⟩, fun i hi => by
          rcases List.mem_append.1 hi with hi | hi
          · exact HSR.out.cand i hi
          · obtain rfl := List.mem_singleton.1 hi; exact ⟨hj16, HJ.out.2.1⟩, by have := HSR.out.size; have := HKB.out.2.1.size; have := HKC.out.2.2.size; have := hcD.size; omega⟩
        have HSD := Lib.hid hSD
        have hlen : ((l ++ [j]).length : Int) = l.length + 1 := by simp
        have HLEN := Lib.hid hlen
        clear q1 q2 q3 t1 t2 d0 r1 v1 v2 hckD hcD hSD hlen
        go_wp2_with fail
        go_roundw
        case rel => first | exact ⟨l ++ [j], by rw [HLEN.out], HSD.out⟩ | exact ⟨l ++ [j], by rw [HLEN.out], HSD.out, trivial⟩
        case measure => simp [intOf]; omega
end Go.Proofs.YtgljjgmfhememaaGreatDoor
