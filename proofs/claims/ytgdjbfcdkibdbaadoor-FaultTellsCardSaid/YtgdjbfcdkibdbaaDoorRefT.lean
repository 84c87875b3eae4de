/- The reference's Text, Same and Numbers on described errors. Conditions: internal/strconv.uint64pow10 holds what the program lays. -/
import Derived.Test.YtgdjbfcdkibdbaaDoorRef12
import Derived.LoopTactic
namespace Go.Proofs.YtgdjbfcdkibdbaaDoor
open Go Go.RowKit Go.Sort
set_option maxRecDepth 100000
set_option maxHeartbeats 1000000
theorem refIs_ok (w : World) (K n : Int) (v : Value) (h0 : 1 ≤ K) (h1 : K < 8) :
    Calls Tryd.prog 43 #[.agg #[.int .i64 K, .int .i64 n, v]] w fun e w' => e = .returned (.bool true) ∧ Same w w' := by
  obtain rfl | rfl | rfl | rfl | rfl | rfl | rfl : K = 1 ∨ K = 2 ∨ K = 3 ∨ K = 4 ∨ K = 5 ∨ K = 6 ∨ K = 7 := by omega
  all_goals
    clear h0 h1
    go_enter Tryd.func43, Tryd.ntmps43
    go_wp2_with fail
    go_ret
    exact ⟨rfl, (Chg.refl _ _).alloc _⟩
theorem refIs_no (w : World) (n : Int) (v : Value) :
    Calls Tryd.prog 43 #[.agg #[.int .i64 0, .int .i64 n, v]] w fun e w' => e = .returned (.bool false) ∧ Same w w' := by
  go_enter Tryd.func43, Tryd.ntmps43
  go_wp2_with fail
  go_ret
  exact ⟨rfl, (Chg.refl _ _).alloc _⟩
def atsText : List Int → List UInt8
  | [] => []
  | n :: l => Lib.itoa n ++ [58, 32] ++ atsText l
theorem atsText_append (l : List Int) (n : Int) : atsText (l ++ [n]) = atsText l ++ Lib.itoa n ++ [58, 32] := by
  induction l with
  | nil => simp [atsText]
  | cons m l ih => simp [atsText, ih, List.append_assoc]
theorem atsText_len : ∀ (l : List Int), (∀ n ∈ l, F64 n) → (atsText l).length ≤ 23 * l.length
  | [], _ => by simp [atsText]
  | n :: l, hl => by
    have h1 := Lib.itoa_length_le n (hl n (by simp)).1 (hl n (by simp)).2
    have h2 := atsText_len l (fun m hm => hl m (by simp [hm]))
    simp [atsText]
    omega
theorem ints_get {w : World} {v : Value} {zs : List Int} (hv : Ints w v zs) {k : Nat} (hk : k < zs.length) : ∃ b off cap, v = .slice (some ⟨b, off, none⟩) zs.length cap ∧ b < w.heap.size ∧ w.cell? ⟨b, off + k, none⟩ = some (.int .i64 (zs.getD k 0)) := by
  obtain ⟨b, off, cap, h1, h2, h3⟩ := hv.at (by rintro rfl; simp at hk)
  exact ⟨b, off, cap, h1, h2, h3 k hk⟩
theorem refText_ok (w : World) (K n : Int) (v : Value) (zs : List Int) (h0 : 1 ≤ K) (h1 : K < 8) (hn : F64 n) (hz : ∀ m ∈ zs, F64 m) (hlen : zs.length ≤ 10000) (hp : Pow w) (hv : Ints w v zs) :
    Calls Tryd.prog 24 #[.agg #[.int .i64 K, .int .i64 n, v]] w fun e w' => e = .returned (tx (atsText zs ++ refText K n)) ∧ Same w w' := by
  obtain ⟨p, cap, rfl⟩ := hv.slice
  have hv' := Lib.hid hv
  clear hv
  go_enter Tryd.func24, Tryd.ntmps24
  go_wp2_with fail
  have kE : Blk (w.alloc (.cells #[.int .i64 K, .int .i64 n, .slice p zs.length cap] 43)) w.heap.size #[.int .i64 K, .int .i64 n, .slice p zs.length cap] 43 := Blk.new _ _ _
  have s1 : Same w (w.alloc (.cells #[.int .i64 K, .int .i64 n, .slice p zs.length cap] 43)) := (Chg.refl _ _).alloc _
  generalize (w.alloc (.cells #[.int .i64 K, .int .i64 n, .slice p zs.length cap] 43)) = w1 at *
  go_loopw [3, 4] (fun s i wr => ∃ k : Nat, k ≤ zs.length ∧ s = tx (atsText (zs.take k)) ∧ i = .int .i64 k ∧ Same w1 wr) (fun _ i _ => zs.length - (intOf i).toNat)
  case atStart => exact ⟨0, by omega, rfl, rfl, Chg.refl _ _⟩
  case round =>
    rename World => wr
    obtain ⟨k, hk, rfl, rfl, hs⟩ := hrel
    have kE' := hs.blk kE (fun x => x)
    have m1 := s1.trans hs
    have c0 := kE'.cellAt 0 (v := .int .i64 K) rfl
    have c1 := kE'.cellAt 1 (v := .int .i64 n) rfl
    have c2 := kE'.cellAt 2 (v := .slice p zs.length cap) rfl
    have hzt : ∀ m ∈ zs.take k, F64 m := fun m hm => hz m (List.mem_of_mem_take hm)
    have htl := atsText_len (zs.take k) hzt
    have htk : (zs.take k).length = k := by rw [List.length_take]; omega
    by_cases hkn : k < zs.length
    · obtain ⟨b, off, cap', hp', hbl, hc⟩ := ints_get hv'.out hkn
      obtain ⟨rfl, rfl⟩ : p = some ⟨b, off, none⟩ ∧ cap = cap' := by simpa using hp'
      have d1 := (m1.cell (p := ⟨b, off + k, none⟩) hbl (fun x => x)).trans hc
      have hf := hz (zs.getD k 0) (by rw [List.getD_eq_getElem?_getD, List.getElem?_eq_getElem hkn]; exact List.getElem_mem hkn)
      have hsn : zs.take (k + 1) = zs.take k ++ [zs.getD k 0] := by
        rw [List.take_succ_eq_append_getElem hkn, List.getD_eq_getElem?_getD, List.getElem?_eq_getElem hkn]; rfl
      have hsn' := Lib.hid hsn
      clear hc hp' kE kE' hsn
      generalize zs.getD k 0 = m at *
      have hli := Lib.itoa_length_le m hf.1 hf.2
      generalize hT : atsText (zs.take k) = T at *
      have hTl : T.length ≤ 230000 := by omega
      have hI := fun w' (hw : Pow w') => Tryd.strconv_Itoa m hf.1 hf.2 w' hw
      have hT' := Lib.hid hT
      clear hT htl hzt
      go_wp2_with fail
      refine (refIs_ok wr K n _ h0 h1).mono ?_
      rintro e w2 ⟨rfl, s2⟩
      have c2' := (s2.cell (World.block_lt_of_cell? _ _ c2) (fun x => x)).trans c2
      have d1' := (s2.cell (p := ⟨b, off + k, none⟩) (World.block_lt_of_cell? _ _ d1) (fun x => x)).trans d1
      have hpw := (hp.same m1).same s2
      clear c0 c1 c2 d1
      go_wp2_with fail
      refine (hI _ hpw).mono ?_
      rintro e w3 ⟨rfl, q, os, rfl⟩
      have s3 := same_grow w2 q os
      generalize grow (w2.drewN q) os = w3 at *
      clear hI hpw c2' d1'
      go_wp2_with fail
      go_roundw
      case rel => exact ⟨k + 1, by omega, by rw [hsn'.out, atsText_append, hT'.out]; exact congrArg Value.string (ByteArray.ext (by simp)), by simp, (hs.trans s2).trans s3⟩
      case measure => simp [intOf]; omega
    · have hkk : k = zs.length := by omega
      have htz : zs.take k = zs := List.take_of_length_le (by omega)
      rw [htz] at htl htk ⊢
      have hrl := refText_len K n hn
      have hTl : (atsText zs).length ≤ 230000 := by omega
      have hT' := Lib.hid hTl
      have hR := fun w' (hw : Pow w') => reftext_ok w' K n (.slice p zs.length cap) h0 h1 hn hw
      have hpw := hp.same m1
      clear kE kE' htz htl hzt htk hT'
      go_wp2_with fail
      refine (hR _ hpw).mono ?_
      rintro e w3 ⟨rfl, s3⟩
      clear hR
      go_wp2_with fail
      go_ret
      refine ⟨?_, m1.trans s3⟩
      first | rfl | exact congrArg (fun s => Ending.returned (Value.string s)) (ByteArray.ext (by simp)) | exact congrArg (fun s => Ending.returned (Value.string s)) (by apply ByteArray.ext; simp)
theorem refSame_ok (w : World) (K n : Int) (u v : Value) (zs : List Int) (hu : Ints w u zs) (hv : Ints w v zs) :
    Calls Tryd.prog 26 #[.agg #[.int .i64 K, .int .i64 n, u], .agg #[.int .i64 K, .int .i64 n, v]] w fun e w' => e = .returned (.bool true) ∧ Same w w' := by
  obtain ⟨p, cap, rfl⟩ := hu.slice
  obtain ⟨p', cap', rfl⟩ := hv.slice
  have hzl := hu.1
  have hu' := Lib.hid hu
  have hv' := Lib.hid hv
  clear hu hv
  go_enter Tryd.func26, Tryd.ntmps26
  go_wp2_with fail
  have kE : Blk ((w.alloc (.cells #[.int .i64 K, .int .i64 n, .slice p zs.length cap] 43)).alloc (.cells #[.int .i64 K, .int .i64 n, .slice p' zs.length cap'] 43)) w.heap.size #[.int .i64 K, .int .i64 n, .slice p zs.length cap] 43 := (Blk.new _ _ _).alloc _
  have kF : Blk ((w.alloc (.cells #[.int .i64 K, .int .i64 n, .slice p zs.length cap] 43)).alloc (.cells #[.int .i64 K, .int .i64 n, .slice p' zs.length cap'] 43)) (w.heap.size + 1) #[.int .i64 K, .int .i64 n, .slice p' zs.length cap'] 43 := Blk.neww (by simp) _ _
  have s1 : Same w ((w.alloc (.cells #[.int .i64 K, .int .i64 n, .slice p zs.length cap] 43)).alloc (.cells #[.int .i64 K, .int .i64 n, .slice p' zs.length cap'] 43)) := ((Chg.refl _ _).alloc _).alloc _
  generalize ((w.alloc (.cells #[.int .i64 K, .int .i64 n, .slice p zs.length cap] 43)).alloc (.cells #[.int .i64 K, .int .i64 n, .slice p' zs.length cap'] 43)) = w1 at *
  have c2 := kE.cellAt 2 (v := .slice p zs.length cap) rfl
  have d2 := kF.cellAt 2 (v := .slice p' zs.length cap') rfl
  clear kE kF
  go_loopw [5] (fun i wr => ∃ k q : Nat, k ≤ zs.length ∧ i = .int .i64 k ∧ wr = w1.drewN q) (fun i _ => zs.length - (intOf i).toNat)
  case atStart => exact ⟨0, 0, by omega, rfl, rfl⟩
  case round =>
    obtain ⟨k, q, hk, rfl, rfl⟩ := hrel
    by_cases hkn : k < zs.length
    · obtain ⟨b, off, _, hp, hbl, hc⟩ := ints_get hu'.out hkn
      obtain ⟨b', off', _, hp', hbl', hc'⟩ := ints_get hv'.out hkn
      obtain ⟨rfl, rfl⟩ : p = some ⟨b, off, none⟩ ∧ _ := by simpa using hp
      obtain ⟨rfl, rfl⟩ : p' = some ⟨b', off', none⟩ ∧ _ := by simpa using hp'
      have e1 := (s1.cell (p := ⟨b, off + k, none⟩) hbl (fun x => x)).trans hc
      have e2 := (s1.cell (p := ⟨b', off' + k, none⟩) hbl' (fun x => x)).trans hc'
      clear hc hc' hp hp'
      go_wp2_with fail
      go_quiet (fail)
      go_wp2_with fail
      go_roundw
      case rel => exact ⟨k + 1, _, by omega, by simp, rfl⟩
      case measure => simp [intOf]; omega
    · go_wp2_with fail
      go_ret
      exact ⟨rfl, s1.drewN _⟩
end Go.Proofs.YtgdjbfcdkibdbaaDoor
