/- Open futures on which known functions hang; join.hang on them, each function told. Conditions: none. -/
import Derived.Test.YtgljjgmfhememaaGreatDoorJoinF
namespace Go.Proofs.YtgljjgmfhememaaGreatDoor
open Go Go.RowKit Go.Sort
set_option maxRecDepth 100000
set_option maxHeartbeats 1000000
/-- The functions that stand in a list's places, first to last. -/
def Stands (pl : Array Value) (fs : List (Nat × Array Value)) : Prop := ∀ k (hk : k < fs.length), pl[2 * (k + 1)]? = some (.func (.func fs[k].1) #[] fs[k].2) ∧ pl[2 * (k + 1) + 1]? = some (.int .i64 k)
theorem Stands.add {pl : Array Value} {fs : List (Nat × Array Value)} (h : Stands pl fs) (hs : pl.size = 130) (hn : fs.length ≤ 2) (F : Nat) (cap : Array Value) :
    Stands ((pl.setIfInBounds (2 * (fs.length + 1)) (.func (.func F) #[] cap)).setIfInBounds (2 * (fs.length + 1) + 1) (.int .i64 fs.length)) (fs ++ [(F, cap)]) := by
  intro k hk
  simp only [List.length_append, List.length_cons, List.length_nil] at hk
  by_cases hkn : k < fs.length
  · obtain ⟨h1, h2⟩ := h k hkn
    rw [List.getElem_append_left hkn]
    refine ⟨?_, ?_⟩
    · rw [Array.getElem?_setIfInBounds_ne (by omega), Array.getElem?_setIfInBounds_ne (by omega)]; exact h1
    · rw [Array.getElem?_setIfInBounds_ne (by omega), Array.getElem?_setIfInBounds_ne (by omega)]; exact h2
  · obtain rfl : k = fs.length := by omega
    rw [List.getElem_append_right (by omega)]
    refine ⟨?_, ?_⟩
    · rw [Array.getElem?_setIfInBounds_ne (by omega), Array.getElem?_setIfInBounds_self_of_lt (by omega)]
      simp
    · rw [Array.getElem?_setIfInBounds_self_of_lt (by simp; omega)]
/-- Open; these functions hang on it. -/
def FutF (w : World) (r : FR) (fs : List (Nat × Array Value)) : Prop := ∃ pl, FutAt w r.b r.s r.l r.lb r.hb r.pb 0 fs.length fs.length pl 0 .nilIface ∧ Stands pl fs
theorem FutF.chg {S : Nat → Prop} {w w' : World} {r : FR} {fs : List (Nat × Array Value)} (h : FutF w r fs) (hc : Chg S w w') (hn : ∀ k, r.has k → ¬ S k) : FutF w' r fs := by
  obtain ⟨pl, h, hs⟩ := h
  exact ⟨pl, h.chg hc (hn _ (.inl rfl)) (hn _ (.inr (.inl rfl))) (hn _ (.inr (.inr (.inl rfl)))) (hn _ (.inr (.inr (.inr (.inl rfl))))) (hn _ (.inr (.inr (.inr (.inr (.inl rfl)))))) (hn _ (.inr (.inr (.inr (.inr (.inr rfl)))))), hs⟩
theorem FutF.n {w : World} {r : FR} {fs : List (Nat × Array Value)} (h : FutF w r fs) : FutN w r fs.length := by
  obtain ⟨pl, h, hs⟩ := h
  exact ⟨pl, h⟩
theorem FutF.lt {w : World} {r : FR} {fs : List (Nat × Array Value)} (h : FutF w r fs) : ∀ k, r.has k → k < w.heap.size := FR.lt h.n
theorem FutF.empty {w : World} {b s l lb hb pb : Nat} {pl : Array Value} (h : FutAt w b s l lb hb pb 0 0 0 pl 0 .nilIface) : FutF w ⟨b, s, l, lb, hb, pb⟩ [] :=
  ⟨pl, h, fun k hk => by simp at hk⟩
theorem then_f (w : World) (r : FR) (fs : List (Nat × Array Value)) (hn : fs.length ≤ 2) (h : FutF w r fs) (F : Nat) (cap : Array Value) : Calls Tryz.prog 69 #[.pointer (some ⟨r.b, 0, none⟩), .pointer none, .func (.func F) #[] cap] w fun e w' => e = .returned (.int .i64 0) ∧ FutF w' r (fs ++ [(F, cap)]) ∧ Chg r.has w w' := by
  obtain ⟨pl, h, hst⟩ := h
  have hs : ∀ w w', Chg (fun k => k = r.lb ∨ k = r.hb ∨ k = r.pb) w w' → Chg r.has w w' := fun w w' hc => hc.mono (fun k _ e => by unfold FR.has; omega)
  have hadd := hst.add h.list.size hn F cap
  obtain e | e | e : fs.length = 0 ∨ fs.length = 1 ∨ fs.length = 2 := by omega
  · have hl : ((fs ++ [(F, cap)]).length : Int) = 1 := by simp [e]
    rw [e] at h hadd
    exact (fut_then_add h F cap).mono fun _ _ ⟨a, b, c⟩ => ⟨a, ⟨_, by rw [hl]; exact b, hadd⟩, hs _ _ c⟩
  · have hl : ((fs ++ [(F, cap)]).length : Int) = 2 := by simp [e]
    rw [e] at h hadd
    exact (fut_then_add_1 h F cap).mono fun _ _ ⟨a, b, c⟩ => ⟨a, ⟨_, by rw [hl]; exact b, hadd⟩, hs _ _ c⟩
  · have hl : ((fs ++ [(F, cap)]).length : Int) = 3 := by simp [e]
    rw [e] at h hadd
    exact (fut_then_add_2 h F cap).mono fun _ _ ⟨a, b, c⟩ => ⟨a, ⟨_, by rw [hl]; exact b, hadd⟩, hs _ _ c⟩
/-- The function that hang is given: called with a number it hands back a function, of which Cl is known. -/
def GivesC (w : World) (F : Nat) (cap : Array Value) (Cl : Nat → Nat → Array Value → World → Prop) : Prop := (∀ (a : Array Value) w, (callFunc F a).run Tryz.prog w = .ok (.enter F a) w) ∧ ∀ W, Same w W → ∀ i : Nat, Calls Tryz.prog F (#[.int .i64 i] ++ cap) W fun e W' => (∃ G cg, e = .returned (.func (.func G) #[] cg) ∧ Cl i G cg W') ∧ Same W W'
/-- What is known of a future that one function more hangs on. -/
def More (fs : List (Nat × Array Value)) (Cl : Nat → Nat → Array Value → World → Prop) (w : World) (r : FR) (j : Nat) : Prop := ∃ G cg, FutF w r (fs ++ [(G, cg)]) ∧ Cl j G cg w
theorem hang_f (w : World) (l : Value) (rs : List FR) (fss : Nat → List (Nat × Array Value)) (hn : ∀ j, (fss j).length ≤ 2) (F : Nat) (cap : Array Value) (Cl : Nat → Nat → Array Value → World → Prop) (hl : Ptrs w l (rs.map fun r => some ⟨r.b, 0, none⟩)) (hap : Apart rs) (hf : ∀ j (hj : j < rs.length), FutF w rs[j] (fss j))
    (hlb : ∀ a m c, l = .slice (some a) m c → rs ≠ [] → ¬ Any rs a.block ∧ a.block < w.heap.size)
    (hg : ∀ W, Chg (Any rs) w W → GivesC W F cap Cl) (hC : ∀ j G cg W W', w.heap.size ≤ W.heap.size → Chg (Any rs) W W' → Cl j G cg W → Cl j G cg W') :
    Calls Tryz.prog 55 #[.pointer none, l, .func (.func F) #[] cap] w fun e w' => e = .returned (.int .i64 0) ∧ (∀ j (hj : j < rs.length), More (fss j) Cl w' rs[j] j) ∧ Chg (Any rs) w w' := by
  obtain ⟨p, cp, rfl⟩ := hl.slice
  have hlen := hl.1
  simp only [List.length_map] at *
  have HN := Lib.hid hn
  have H := Lib.hid hl
  have HA := Lib.hid hap
  have HF := Lib.hid hf
  have HG := Lib.hid hg
  have HB := Lib.hid hlb
  have HC := Lib.hid hC
  clear hl hap hf hg hlb hC hn
  go_enter Tryz.func55, Tryz.ntmps55
  go_wp2_with fail
  go_loopw [12] (fun i wr => ∃ k : Nat, k ≤ rs.length ∧ i = .int .i64 k ∧ (∀ j (hj : j < rs.length), (j < k → More (fss j) Cl wr (rs[j]) j) ∧ (k ≤ j → FutF wr (rs[j]) (fss j))) ∧ Chg (Any rs) w wr) (fun i _ => rs.length - (intOf i).toNat)
  case atStart => exact ⟨0, by omega, rfl, fun j hj => ⟨fun h => by omega, fun _ => HF.out j hj⟩, Chg.refl _ _⟩
  case round =>
    obtain ⟨k, hk, rfl, hfr, hc⟩ := hrel
    rename World => wr
    by_cases hkn : k < rs.length
    · have hkm : k < (rs.map fun r => some (⟨r.b, 0, none⟩ : Addr)).length := by simpa using hkn
      obtain ⟨b, off, rfl, hcell⟩ := H.out.get hkm
      have hb := HB.out _ _ _ rfl (by rintro rfl; simp at hkn)
      have d1 := (hc.cell (p := ⟨b, off + k, none⟩) hb.2 hb.1).trans hcell
      simp only [List.getElem_map] at d1
      have hfk := (hfr k hkn).2 (Nat.le_refl _)
      have hgv := HG.out wr hc
      have hnk := HN.out k
      have hsw := hc.size
      have HR := Lib.hid hfr
      have HK := Lib.hid hfk
      have HNk := Lib.hid hnk
      clear hfr hfk hcell hb hnk
      have hE := hgv.1 (#[.int .i64 k] ++ cap)
      have hcall := Lib.hid (hgv.2 wr (Chg.refl _ _) k)
      clear hgv
      go_wp2_with fail
      refine hcall.out.mono ?_
      rintro e w2 ⟨⟨G, cg, rfl, hcl⟩, s2⟩
      have hk2 := HK.out.chg s2 (fun _ _ x => x)
      have HCL := Lib.hid hcl
      clear hE hcall hcl
      generalize hr : rs[k] = r at *
      have hr' := Lib.hid hr
      clear hr
      generalize hfsk : fss k = fs at *
      have hfsk' := Lib.hid hfsk
      have hk2' := Lib.hid hk2
      clear hfsk hk2 HK
      go_wp2_with fail
      refine (then_f _ r fs HNk.out hk2'.out G cg).mono ?_
      rintro e w3 ⟨rfl, h3, g3⟩
      have H3 := Lib.hid h3
      clear h3
      go_wp2_with fail
      go_roundw
      case rel =>
        have hmem : r ∈ rs := by rw [← hr'.out]; exact List.getElem_mem hkn
        have g3' : Chg (Any rs) w2 w3 := g3.mono (fun q _ h => ⟨r, hmem, h⟩)
        have s23 : Chg (Any rs) wr w3 := (s2.mono (fun _ _ x => x.elim)).trans g3'
        have hc3 : Chg (Any rs) w w3 := hc.trans s23
        have hall : ∀ j (hj : j < rs.length), (j < k + 1 → More (fss j) Cl w3 (rs[j]) j) ∧ (k + 1 ≤ j → FutF w3 (rs[j]) (fss j)) := by
          intro j hj
          by_cases hjk : j = k
          · subst hjk
            refine ⟨fun _ => ?_, fun h => by omega⟩
            rw [hr'.out, hfsk'.out]
            exact ⟨G, cg, H3.out, HC.out _ _ _ _ _ (Nat.le_trans hsw s2.size) g3' HCL.out⟩
          · have hnot : ∀ q, (rs[j]).has q → ¬ r.has q := fun q hq hx => HA.out j k hj hkn hjk q hq (by rw [hr'.out]; exact hx)
            obtain ⟨r1, r2⟩ := HR.out j hj
            refine ⟨fun h => ?_, fun h => ((r2 (by omega)).chg s2 (fun _ _ x => x)).chg g3 hnot⟩
            obtain ⟨G', cg', h1, h2⟩ := r1 (by omega)
            exact ⟨G', cg', (h1.chg s2 (fun _ _ x => x)).chg g3 hnot, HC.out _ _ _ _ _ hsw s23 h2⟩
        first | exact ⟨k + 1, by omega, by simp, hall, hc3⟩ | exact ⟨k + 1, by omega, by simp, hall, hc3, trivial⟩
      case measure => simp [intOf]; omega
    · go_wp2_with fail
      go_ret
      exact ⟨rfl, fun j hj => (hfr j hj).1 (by omega), hc⟩
end Go.Proofs.YtgljjgmfhememaaGreatDoor
