/- fault.Numbers at every error of this chapter: the numbers that it is wrapped by, the outermost first. Conditions: errors.errorType holds what the program lays. -/
import Derived.Test.YtgdjbfcdkibdbaaDoorNumA
import Derived.Deep.LoopGhost
import Derived.Deep.RegionHeld3
import Derived.Deep.AppendLies
import Derived.OwnWalk
namespace Go.Proofs.YtgdjbfcdkibdbaaDoor
open Go Go.RowKit
set_option maxRecDepth 100000
set_option maxHeartbeats 1000000
theorem grown_of_same {w w' : World} (h : Same w w') : w.grownBy w' none := ⟨h.os, h.tape, h.output, h.size, fun k hk _ => h.old k hk (fun x => x)⟩
theorem own_same {w w' : World} {base n size : Nat} {e : TypeId} {v : Value} {xs : List Value} (ho : w.ownsRow base e size v n xs) (h : Same w w') : w'.ownsRow base e size v n xs :=
  ho.kept (grown_of_same h) (by cases hv : v.ownBlock <;> simp)
theorem ints_of_own {w : World} {base : Nat} {v : Value} {zs : List Int} (hl : zs.length ≤ 4611686018427387904) (ho : w.ownsRow base 3 1 v zs.length (zs.map (Value.int .i64))) : Ints w v zs := by
  refine ⟨hl, ?_⟩
  obtain ⟨_, ⟨rfl, h0⟩ | ⟨g, cap, cur, rfl, _, hb, hnc, _, hcs, htk⟩⟩ := ho
  · exact .inl ⟨none, 0, rfl, List.eq_nil_of_length_eq_zero h0⟩
  · refine .inr ⟨g, 0, cap, rfl, hnc, fun j hj => ?_⟩
    have h1 : cur[j]? = some (.int .i64 (zs.getD j 0)) := by
      have h2 : (cur.toList.take (zs.length * 1))[j]? = (zs.map (Value.int .i64))[j]? := by rw [htk]
      rw [List.getElem?_take_of_lt (by omega), List.getElem?_map, Array.getElem?_toList] at h2
      rw [h2]
      simp [List.getElem?_eq_getElem hj]
    have := Blk.cellAt (w := w) (b := g) (cs := cur) (T := 3) hb j h1
    simpa using this
/-- A row of the call's own that reads as these ints. -/
def OwnInts (w w' : World) (r : Value) (l : List Int) : Prop := w'.ownsRow w.heap.size 3 1 r l.length (l.map (Value.int .i64))
theorem numbers_own (w : World) (l : List Int) (B : Option Base) (v : Value) (hv : ErrAt w l B v) (hlen : l.length ≤ 100000) (hg : ErrType w) (hl : 1 < w.heap.size) :
    Calls Tryd.prog 21 #[v] w fun e w' => ∃ r, e = .returned r ∧ OwnInts w w' r l ∧ Same w w' := by
  obtain ⟨i0, hi, hz0, hz1, hz2⟩ := info_parts (P := Tryd.prog) (e := 3) (z := .int .i64 0) (size := 1) (bytes := 8) (by kernel_rfl)
  go_enter Tryd.func21, Tryd.ntmps21
  go_wp2_with fail
  go_loopg [0, 3] l.length (fun k x acc wr => ∃ d r : List Int, l = d ++ r ∧ r.length ≤ k ∧ ErrAt w r B x ∧ wr.ownsRow w.heap.size 3 1 acc d.length (d.map (Value.int .i64)) ∧ Same w wr)
  case atStart => exact ⟨[], l, rfl, Nat.le_refl _, hv, World.ownsRow_nil _ _ _ _, Chg.refl _ _⟩
  case round =>
  obtain ⟨d, r, hd, hk, he, hown, hs⟩ := hrel
  rename World => wr
  have hga := hg.same hs hl
  have hza := hs.size
  go_wp2_with fail
  have t1 : Blk (wr.alloc (.cells #[.pointer none] 59)) wr.heap.size #[.pointer none] 59 := Blk.new _ _ _
  have s1 : Same wr (wr.alloc (.cells #[.pointer none] 59)) := (Chg.refl _ _).alloc _
  have o1 := hown.alloc (.cells #[.pointer none] 59)
  have m1 := hs.trans s1
  have hz1' : (wr.alloc (.cells #[.pointer none] 59)).heap.size = wr.heap.size + 1 := by simp
  generalize wr.alloc (.cells #[.pointer none] 59) = w1 at *
  clear s1 hs hga
  cases r with
  | nil =>
    refine (As_At_no w1 wr.heap.size B _ (he.same m1) (hg.same m1 hl) (by omega)).mono ?_
    rintro e w2 ⟨rfl, s2⟩
    have m2 := m1.trans s2
    have o2 := own_same o1 s2
    clear s2 o1 t1 he
    go_wp2_with fail
    go_ret
    subst hd
    exact ⟨_, rfl, by simpa [OwnInts] using o2, m2⟩
  | cons n r =>
    obtain ⟨b, u, rfl, hb0, hu⟩ := he
    have hbl := hb0.lt
    have hb := m1.blk hb0 (fun x => x)
    refine (As_hit_At 0 59 _ w1 wr.heap.size (some ⟨b, 0, none⟩) (.pointer none) (hg.same m1 hl) (by omega) t1 (fun w3 h3 => .hit (lk_At _) isT_At)).mono ?_
    rintro e w2 ⟨rfl, s2, t2⟩
    have hown' := hown.lt
    have hne : u3.ownBlock ≠ some wr.heap.size := fun e => by have := (hown' _ e).2; omega
    have hneb : u3.ownBlock ≠ some b := fun e => by have := (hown' _ e).1; omega
    have o2 : w2.ownsRow w.heap.size 3 1 u3 d.length (d.map (Value.int .i64)) := o1.kept (row := some wr.heap.size) ⟨s2.os, s2.tape, s2.output, s2.size, fun k hk hk2 => s2.old k hk (fun e => hk2 (by rw [e]))⟩ (.inr hne)
    have hb2 := s2.blk hb (by omega)
    have m2 : Same w w2 := m1.trans' s2 (fun i hi e => by omega)
    have c1 := t2.cellAt 0 (v := .pointer (some ⟨b, 0, none⟩)) rfl
    have c2 := hb2.cellAt 0 (v := .int .i64 n) rfl
    have c3 := hb2.cellAt 1 (v := u) rfl
    have hz2' := s2.size
    have hlen' : d.length + 1 ≤ 100000 := by subst hd; simp at hlen; omega
    clear s2 t2 hb2 hb o1 t1 hown m1
    go_wp2_with fail
    generalize hgt : wr.heap.size = tb at *
    go_region_held3 (fun w' => w'.cell? ⟨tb, 0, none⟩ = some (.pointer (some ⟨b, 0, none⟩)) ∧ w'.cell? ⟨b, 0, none⟩ = some (.int .i64 n) ∧ w'.cell? ⟨b, 1, none⟩ = some u)
      (first
        | go_keep
        | (go_split_ands
           refine ⟨?_, ?_, ?_⟩
           · (rw [hgrow.cell_far _ (by simp; omega) (Ne.symm hne)]; assumption)
           · (rw [hgrow.cell_far _ (by simp; omega) (Ne.symm hneb)]; assumption)
           · (rw [hgrow.cell_far _ (by simp; omega) (Ne.symm hneb)]; assumption)))
      ((refine step_append_lies _ (by rfl) _ _ _ (by rfl) w.heap.size 3 i0 _ 1 8 Tryd.underlying41 hi hz0 hz1 hz2 rfl (by omega) u3 d.length (d.map (Value.int .i64)) (by rfl) ((o2.alloc _).drew)
          ⟨w2.heap.size, 0, none⟩ 1 1 [.int .i64 n] (by rfl) (by rfl) (World.news_of_block (cs := #[.int .i64 n]) (t := 3) (fr := (0, 0)) (heap_alloc_new w2 _)) (by simp [Value.oneCell'])
          (by omega) (by simp [maxLen]; omega) (by omega) (by simp; omega) (w2.heap.size + 1) (by simp) ?_; intro gg cap w3 hown1 hgrow hat hlt))
    have m3 : Same w w3 := by
      refine ((m2.alloc (.cells #[.int .i64 n] 3)).drew).trans' (S' := fun k => u3.ownBlock = some k) ⟨hgrow.os, hgrow.tape, hgrow.output, hgrow.size, fun k hk hn => hgrow.block k hk (fun e => hn e.symm)⟩ (fun i hi e => ?_)
      have := (hown' i e).1
      omega
    clear hgrow hat hlt c1 c2 c3 o2 m2
    go_wp2_with fail
    go_roundg r.length
    case measure => simp at hk; omega
    case rel => exact ⟨d ++ [n], r, by rw [hd]; simp, Nat.le_refl _, hu, by simpa using hown1, m3⟩
theorem numbers_ok (w : World) (l : List Int) (B : Option Base) (v : Value) (hv : ErrAt w l B v) (hlen : l.length ≤ 100000) (hg : ErrType w) (hl : 1 < w.heap.size) :
    Calls Tryd.prog 21 #[v] w fun e w' => ∃ r, e = .returned r ∧ Ints w' r l ∧ Same w w' :=
  (numbers_own w l B v hv hlen hg hl).mono fun _ _ ⟨r, a, b, c⟩ => ⟨r, a, ints_of_own (by omega) b, c⟩
end Go.Proofs.YtgdjbfcdkibdbaaDoor
