/- join.hang on futures that are open: one function more hangs on each. Conditions: none. -/
import Derived.Test.YtgljjgmfhememaaGreatDoorJoinB
namespace Go.Proofs.YtgljjgmfhememaaGreatDoor
open Go Go.RowKit Go.Sort
set_option maxRecDepth 100000
set_option maxHeartbeats 1000000
/-- A future's blocks. -/
structure FR where
  b : Nat
  s : Nat
  l : Nat
  lb : Nat
  hb : Nat
  pb : Nat
def FR.has (r : FR) (k : Nat) : Prop := k = r.b ∨ k = r.s ∨ k = r.l ∨ k = r.lb ∨ k = r.hb ∨ k = r.pb
/-- Open, n functions hang on it. -/
def FutN (w : World) (r : FR) (n : Nat) : Prop := ∃ pl, FutAt w r.b r.s r.l r.lb r.hb r.pb 0 n n pl 0 .nilIface
theorem FutN.chg {S : Nat → Prop} {w w' : World} {r : FR} {n : Nat} (h : FutN w r n) (hc : Chg S w w') (hn : ∀ k, r.has k → ¬ S k) : FutN w' r n := by
  obtain ⟨pl, h⟩ := h
  exact ⟨pl, h.chg hc (hn _ (.inl rfl)) (hn _ (.inr (.inl rfl))) (hn _ (.inr (.inr (.inl rfl)))) (hn _ (.inr (.inr (.inr (.inl rfl))))) (hn _ (.inr (.inr (.inr (.inr (.inl rfl)))))) (hn _ (.inr (.inr (.inr (.inr (.inr rfl))))))⟩
theorem FutN.made {w : World} {r : FR} {n : Nat} (h : FutN w r n) : MadeP w (some ⟨r.b, 0, none⟩) := by
  obtain ⟨pl, h⟩ := h
  exact ⟨_, _, _, rfl, h.blk, rfl⟩
theorem then_n (w : World) (r : FR) (n : Nat) (hn : n ≤ 2) (h : FutN w r n) (F : Nat) (cap : Array Value) : Calls Tryz.prog 69 #[.pointer (some ⟨r.b, 0, none⟩), .pointer none, .func (.func F) #[] cap] w fun e w' => e = .returned (.int .i64 0) ∧ FutN w' r (n + 1) ∧ Chg r.has w w' := by
  obtain ⟨pl, h⟩ := h
  have hs : ∀ w w', Chg (fun k => k = r.lb ∨ k = r.hb ∨ k = r.pb) w w' → Chg r.has w w' := fun w w' hc => hc.mono (fun k _ e => by unfold FR.has; omega)
  obtain rfl | rfl | rfl : n = 0 ∨ n = 1 ∨ n = 2 := by omega
  · exact (fut_then_add h F cap).mono fun _ _ ⟨a, b, c⟩ => ⟨a, ⟨_, b⟩, hs _ _ c⟩
  · exact (fut_then_add_1 h F cap).mono fun _ _ ⟨a, b, c⟩ => ⟨a, ⟨_, b⟩, hs _ _ c⟩
  · exact (fut_then_add_2 h F cap).mono fun _ _ ⟨a, b, c⟩ => ⟨a, ⟨_, b⟩, hs _ _ c⟩
/-- No two share a block. -/
def Apart (rs : List FR) : Prop := ∀ i j (hi : i < rs.length) (hj : j < rs.length), i ≠ j → ∀ k, (rs[i]).has k → ¬ (rs[j]).has k
def Any (rs : List FR) (k : Nat) : Prop := ∃ r ∈ rs, r.has k
/-- The function that hang is given: called with a number it hands back a function. -/
def Gives (w : World) (F : Nat) (cap : Array Value) : Prop := (∀ (a : Array Value) w, (callFunc F a).run Tryz.prog w = .ok (.enter F a) w) ∧ ∀ W, Same w W → ∀ i : Nat, Calls Tryz.prog F (#[.int .i64 i] ++ cap) W fun e W' => (∃ G cg, e = .returned (.func (.func G) #[] cg)) ∧ Same W W'
theorem hang_ok (w : World) (l : Value) (rs : List FR) (n : Nat) (hn : n ≤ 2) (F : Nat) (cap : Array Value) (hl : Ptrs w l (rs.map fun r => some ⟨r.b, 0, none⟩)) (hap : Apart rs) (hf : ∀ r ∈ rs, FutN w r n)
    (hlb : ∀ a m c, l = .slice (some a) m c → rs ≠ [] → ¬ Any rs a.block ∧ a.block < w.heap.size)
    (hg : ∀ W, Chg (Any rs) w W → Gives W F cap) :
    Calls Tryz.prog 55 #[.pointer none, l, .func (.func F) #[] cap] w fun e w' => e = .returned (.int .i64 0) ∧ (∀ r ∈ rs, FutN w' r (n + 1)) ∧ Chg (Any rs) w w' := by
  obtain ⟨p, cp, rfl⟩ := hl.slice
  have hlen := hl.1
  simp only [List.length_map] at *
  have H := Lib.hid hl
  have HA := Lib.hid hap
  have HF := Lib.hid hf
  have HG := Lib.hid hg
  have HB := Lib.hid hlb
  clear hl hap hf hg hlb
  go_enter Tryz.func55, Tryz.ntmps55
  go_wp2_with fail
  go_loopw [12] (fun i wr => ∃ k : Nat, k ≤ rs.length ∧ i = .int .i64 k ∧ (∀ j (hj : j < rs.length), FutN wr (rs[j]) (if j < k then n + 1 else n)) ∧ Chg (Any rs) w wr) (fun i _ => rs.length - (intOf i).toNat)
  case atStart => exact ⟨0, by omega, rfl, fun j hj => by simpa using HF.out _ (List.getElem_mem hj), Chg.refl _ _⟩
  case round =>
    obtain ⟨k, hk, rfl, hfr, hc⟩ := hrel
    rename World => wr
    by_cases hkn : k < rs.length
    · have hkm : k < (rs.map fun r => some (⟨r.b, 0, none⟩ : Addr)).length := by simpa using hkn
      obtain ⟨b, off, rfl, hcell⟩ := H.out.get hkm
      have hb := HB.out _ _ _ rfl (by rintro rfl; simp at hkn)
      have d1 := (hc.cell (p := ⟨b, off + k, none⟩) hb.2 hb.1).trans hcell
      simp only [List.getElem_map] at d1
      have hfk := hfr k hkn
      simp only [Nat.lt_irrefl, if_false] at hfk
      have hgv := HG.out wr hc
      have HR := Lib.hid hfr
      have HK := Lib.hid hfk
      clear hfr hfk hcell hb
      have hE := hgv.1 (#[.int .i64 k] ++ cap)
      have hcall := Lib.hid (hgv.2 wr (Chg.refl _ _) k)
      clear hgv
      go_wp2_with fail
      refine hcall.out.mono ?_
      rintro e w2 ⟨⟨G, cg, rfl⟩, s2⟩
      have hk2 : FutN w2 (rs[k]) n := HK.out.chg s2 (fun _ _ x => x)
      clear hE hcall
      generalize hr : rs[k] = r at *
      have hr' := Lib.hid hr
      clear hr
      go_wp2_with fail
      refine (then_n _ r n hn hk2 G cg).mono ?_
      rintro e w3 ⟨rfl, h3, g3⟩
      go_wp2_with fail
      go_roundw
      case rel =>
        have hmem : r ∈ rs := by rw [← hr'.out]; exact List.getElem_mem hkn
        have hc3 : Chg (Any rs) w w3 := (hc.trans (s2.mono (fun _ _ x => x.elim))).trans (g3.mono (fun q _ h => ⟨r, hmem, h⟩))
        have hall : ∀ j (hj : j < rs.length), FutN w3 (rs[j]) (if j < k + 1 then n + 1 else n) := by
          intro j hj
          by_cases hjk : j = k
          · subst hjk
            rw [if_pos (by omega), hr'.out]
            exact h3
          · have h4 := ((HR.out j hj).chg s2 (fun _ _ x => x)).chg g3 (fun q hq hx => HA.out j k hj hkn hjk q hq (by rw [hr'.out]; exact hx))
            by_cases h5 : j < k
            · rw [if_pos h5] at h4; rw [if_pos (by omega)]; exact h4
            · rw [if_neg h5] at h4; rw [if_neg (by omega)]; exact h4
        first | exact ⟨k + 1, by omega, by simp, hall, hc3⟩ | exact ⟨k + 1, by omega, by simp, hall, hc3, trivial⟩
      case measure => simp [intOf]; omega
    · go_wp2_with fail
      go_ret
      refine ⟨rfl, fun r hr => ?_, hc⟩
      obtain ⟨j, hj, rfl⟩ := List.getElem_of_mem hr
      have := hfr j hj
      rwa [if_pos (by omega)] at this
end Go.Proofs.YtgljjgmfhememaaGreatDoor
