/- At.Error and Text at every error of this chapter. Conditions: internal/strconv.uint64pow10 holds what the program lays. -/
import Derived.Test.YtgdjbfcdkibdbaaDoorErrno
namespace Go.Proofs.YtgdjbfcdkibdbaaDoor
open Go Go.RowKit Go.Sort
set_option maxRecDepth 100000
set_option maxHeartbeats 1000000
abbrev F64 (n : Int) : Prop := -9223372036854775808 ≤ n ∧ n ≤ 9223372036854775807
def Base.fits : Base → Prop
  | .errno n => F64 n | .failed n => F64 n | .cancelled n => F64 n | .late n => F64 n | .panicked _ => True | .plain _ => True
def bText : Base → List UInt8
  | .errno n => errText n
  | .failed n => [102, 97, 105, 108, 101, 100] ++ [32] ++ Lib.itoa n
  | .cancelled n => [99, 97, 110, 99, 101, 108, 108, 101, 100] ++ [32] ++ Lib.itoa n
  | .late n => [108, 97, 116, 101] ++ [32] ++ Lib.itoa n
  | .panicked _ => [112, 97, 110, 105, 99]
  | .plain _ => [112, 108, 97, 105, 110]
def oText : Option Base → List UInt8
  | none => [] | some B => bText B
def eText : List Int → Option Base → List UInt8
  | [], B => oText B
  | n :: l, B => Lib.itoa n ++ [58, 32] ++ eText l B
theorem bText_len : ∀ B : Base, B.fits → (bText B).length ≤ 100
  | .errno n, _ => by
    have := errGo_length 64 n.toNat []
    simp [bText, errText] at this ⊢
    omega
  | .failed n, h => by have := Lib.itoa_length_le n h.1 h.2; simp [bText]; omega
  | .cancelled n, h => by have := Lib.itoa_length_le n h.1 h.2; simp [bText]; omega
  | .late n, h => by have := Lib.itoa_length_le n h.1 h.2; simp [bText]; omega
  | .panicked _, _ => by simp [bText]
  | .plain _, _ => by simp [bText]
def oFits : Option Base → Prop
  | none => True | some B => B.fits
theorem eText_len : ∀ (l : List Int) (B : Option Base), (∀ n ∈ l, F64 n) → oFits B → (eText l B).length ≤ 23 * l.length + 100
  | [], none, _, _ => by simp [eText, oText]
  | [], some B, _, h => by have := bText_len B h; simpa [eText, oText] using this
  | n :: l, B, hl, h => by
    have h1 := Lib.itoa_length_le n (hl n (by simp)).1 (hl n (by simp)).2
    have h2 := eText_len l B (fun m hm => hl m (by simp [hm])) h
    simp [eText]
    omega
/-- What the plain error is: its text lies in the block that it points to. -/
def PlainAt (w : World) : Option Base → Prop
  | some (.plain a) => w.cell? a = some (tx [112, 108, 97, 105, 110])
  | _ => True
theorem PlainAt.same {w w' : World} {B : Option Base} (h : PlainAt w B) (hs : Same w w') : PlainAt w' B := by
  cases B with
  | none => trivial
  | some B => cases B with
    | plain a => exact (hs.cell (p := a) (World.block_lt_of_cell? w a h) (fun x => x)).trans h
    | _ => trivial
theorem plain_error (w : World) (a : Addr) (h : PlainAt w (some (.plain a))) : Calls Tryd.prog 188 #[.pointer (some a)] w fun e w' => e = .returned (tx [112, 108, 97, 105, 110]) ∧ w = w' := by
  have c0 : w.cell? a = some (tx [112, 108, 97, 105, 110]) := h
  have z0 : a.add 0 = a := by cases a; rfl
  clear h
  go_enter Tryd.func188, Tryd.ntmps188
  go_wp2_with fail
  go_ret
  exact ⟨rfl, rfl⟩
theorem at_error_base (B : Base) (w : World) (b : Nat) (n : Int) (u : Value) (hb : Blk w b #[.int .i64 n, u] 120) (hu : B.In w u) (hl : F64 n) (hf : B.fits) (hp : Pow w) (hpl : PlainAt w (some B)) :
    Calls Tryd.prog 32 #[.pointer (some ⟨b, 0, none⟩)] w fun e w' => e = .returned (tx (eText [n] (some B))) ∧ Same w w' := by
  have hbl := bText_len B hf
  have hlen : True := trivial
  replace hl : ∀ m ∈ [n], F64 m := by simpa using hl
  cases B with
  | errno k =>
    obtain rfl := hu
    have hn := hl n (by simp)
    have hin := Lib.itoa_length_le n hn.1 hn.2
    have c0 := hb.cellAt 0 (v := .int .i64 n) rfl
    have c1 := hb.cellAt 1 (v := .iface 35 (.int .i64 k)) rfl
    have hI := Tryd.strconv_Itoa n hn.1 hn.2 w hp
    have hT : (bText (.errno k)).length ≤ 1000000 := by omega
    have hfin : tx (eText (n :: []) (some (.errno k))) = tx ((Lib.itoa n ++ [58, 32]) ++ bText (.errno k)) := rfl
    rw [hfin]
    clear hfin hbl
    generalize Lib.itoa n = d at *
    generalize htx : bText (.errno k) = T at *
    go_enter Tryd.func32, Tryd.ntmps32
    go_wp2_with fail
    refine hI.mono ?_
    rintro e w1 ⟨rfl, kk, os, rfl⟩
    have s1 := same_grow w kk os
    generalize grow (w.drewN kk) os = w1 at *
    have hb1 := s1.blk hb (fun x => x)
    have d1 := hb1.cellAt 1 (v := .iface 35 (.int .i64 k)) rfl
    clear hI c0 c1
    go_wp2_with fail
    refine (errno_error w1 k hf.1 hf.2).mono ?_
    rintro e w2 ⟨he, rfl⟩
    have s2 : Same w1 w1 := Chg.refl _ _
    have he' : e = .returned (tx T) := by rw [← htx]; exact he
    subst he'
    clear he
    clear d1 hb1 htx
    go_wp2_with fail
    go_ret
    exact ⟨congrArg (fun s => Ending.returned (Value.string s)) (ByteArray.ext (by simp)), s1.trans s2⟩
  | failed k =>
    obtain ⟨c, rfl, hc⟩ := hu
    have hn := hl n (by simp)
    have hin := Lib.itoa_length_le n hn.1 hn.2
    have c0 := hb.cellAt 0 (v := .int .i64 n) rfl
    have c1 := hb.cellAt 1 (v := .iface 55 (.pointer (some ⟨c, 0, none⟩))) rfl
    have hI := Tryd.strconv_Itoa n hn.1 hn.2 w hp
    have hT : (bText (.failed k)).length ≤ 1000000 := by omega
    have hfin : tx (eText (n :: []) (some (.failed k))) = tx ((Lib.itoa n ++ [58, 32]) ++ bText (.failed k)) := rfl
    rw [hfin]
    clear hfin hbl
    generalize Lib.itoa n = d at *
    generalize htx : bText (.failed k) = T at *
    go_enter Tryd.func32, Tryd.ntmps32
    go_wp2_with fail
    refine hI.mono ?_
    rintro e w1 ⟨rfl, kk, os, rfl⟩
    have s1 := same_grow w kk os
    generalize grow (w.drewN kk) os = w1 at *
    have hb1 := s1.blk hb (fun x => x)
    have d1 := hb1.cellAt 1 (v := .iface 55 (.pointer (some ⟨c, 0, none⟩))) rfl
    clear hI c0 c1
    go_wp2_with fail
    refine (failed_error w1 c k hf.1 hf.2 (hp.same s1) (s1.blk hc (fun x => x))).mono ?_
    rintro e w2 ⟨he, s2⟩
    have he' : e = .returned (tx T) := by rw [← htx]; exact he
    subst he'
    clear he
    clear d1 hb1 htx
    go_wp2_with fail
    go_ret
    exact ⟨congrArg (fun s => Ending.returned (Value.string s)) (ByteArray.ext (by simp)), s1.trans s2⟩
  | cancelled k =>
    obtain ⟨c, rfl, hc⟩ := hu
    have hn := hl n (by simp)
    have hin := Lib.itoa_length_le n hn.1 hn.2
    have c0 := hb.cellAt 0 (v := .int .i64 n) rfl
    have c1 := hb.cellAt 1 (v := .iface 56 (.pointer (some ⟨c, 0, none⟩))) rfl
    have hI := Tryd.strconv_Itoa n hn.1 hn.2 w hp
    have hT : (bText (.cancelled k)).length ≤ 1000000 := by omega
    have hfin : tx (eText (n :: []) (some (.cancelled k))) = tx ((Lib.itoa n ++ [58, 32]) ++ bText (.cancelled k)) := rfl
    rw [hfin]
    clear hfin hbl
    generalize Lib.itoa n = d at *
    generalize htx : bText (.cancelled k) = T at *
    go_enter Tryd.func32, Tryd.ntmps32
    go_wp2_with fail
    refine hI.mono ?_
    rintro e w1 ⟨rfl, kk, os, rfl⟩
    have s1 := same_grow w kk os
    generalize grow (w.drewN kk) os = w1 at *
    have hb1 := s1.blk hb (fun x => x)
    have d1 := hb1.cellAt 1 (v := .iface 56 (.pointer (some ⟨c, 0, none⟩))) rfl
    clear hI c0 c1
    go_wp2_with fail
    refine (cancelled_error w1 c k hf.1 hf.2 (hp.same s1) (s1.blk hc (fun x => x))).mono ?_
    rintro e w2 ⟨he, s2⟩
    have he' : e = .returned (tx T) := by rw [← htx]; exact he
    subst he'
    clear he
    clear d1 hb1 htx
    go_wp2_with fail
    go_ret
    exact ⟨congrArg (fun s => Ending.returned (Value.string s)) (ByteArray.ext (by simp)), s1.trans s2⟩
  | late k =>
    obtain ⟨c, rfl, hc⟩ := hu
    have hn := hl n (by simp)
    have hin := Lib.itoa_length_le n hn.1 hn.2
    have c0 := hb.cellAt 0 (v := .int .i64 n) rfl
    have c1 := hb.cellAt 1 (v := .iface 57 (.pointer (some ⟨c, 0, none⟩))) rfl
    have hI := Tryd.strconv_Itoa n hn.1 hn.2 w hp
    have hT : (bText (.late k)).length ≤ 1000000 := by omega
    have hfin : tx (eText (n :: []) (some (.late k))) = tx ((Lib.itoa n ++ [58, 32]) ++ bText (.late k)) := rfl
    rw [hfin]
    clear hfin hbl
    generalize Lib.itoa n = d at *
    generalize htx : bText (.late k) = T at *
    go_enter Tryd.func32, Tryd.ntmps32
    go_wp2_with fail
    refine hI.mono ?_
    rintro e w1 ⟨rfl, kk, os, rfl⟩
    have s1 := same_grow w kk os
    generalize grow (w.drewN kk) os = w1 at *
    have hb1 := s1.blk hb (fun x => x)
    have d1 := hb1.cellAt 1 (v := .iface 57 (.pointer (some ⟨c, 0, none⟩))) rfl
    clear hI c0 c1
    go_wp2_with fail
    refine (late_error w1 c k hf.1 hf.2 (hp.same s1) (s1.blk hc (fun x => x))).mono ?_
    rintro e w2 ⟨he, s2⟩
    have he' : e = .returned (tx T) := by rw [← htx]; exact he
    subst he'
    clear he
    clear d1 hb1 htx
    go_wp2_with fail
    go_ret
    exact ⟨congrArg (fun s => Ending.returned (Value.string s)) (ByteArray.ext (by simp)), s1.trans s2⟩
  | panicked x =>
    obtain ⟨c, rfl, hc⟩ := hu
    have hn := hl n (by simp)
    have hin := Lib.itoa_length_le n hn.1 hn.2
    have c0 := hb.cellAt 0 (v := .int .i64 n) rfl
    have c1 := hb.cellAt 1 (v := .iface 58 (.pointer (some ⟨c, 0, none⟩))) rfl
    have hI := Tryd.strconv_Itoa n hn.1 hn.2 w hp
    have hT : (bText (.panicked x)).length ≤ 1000000 := by omega
    have hfin : tx (eText (n :: []) (some (.panicked x))) = tx ((Lib.itoa n ++ [58, 32]) ++ bText (.panicked x)) := rfl
    rw [hfin]
    clear hfin hbl
    generalize Lib.itoa n = d at *
    generalize htx : bText (.panicked x) = T at *
    go_enter Tryd.func32, Tryd.ntmps32
    go_wp2_with fail
    refine hI.mono ?_
    rintro e w1 ⟨rfl, kk, os, rfl⟩
    have s1 := same_grow w kk os
    generalize grow (w.drewN kk) os = w1 at *
    have hb1 := s1.blk hb (fun x => x)
    have d1 := hb1.cellAt 1 (v := .iface 58 (.pointer (some ⟨c, 0, none⟩))) rfl
    clear hI c0 c1
    go_wp2_with fail
    refine (panicked_error w1 c x (s1.blk hc (fun x => x))).mono ?_
    rintro e w2 ⟨he, rfl⟩
    have s2 : Same w1 w1 := Chg.refl _ _
    have he' : e = .returned (tx T) := by rw [← htx]; exact he
    subst he'
    clear he
    clear d1 hb1 htx
    go_wp2_with fail
    go_ret
    exact ⟨congrArg (fun s => Ending.returned (Value.string s)) (ByteArray.ext (by simp)), s1.trans s2⟩
  | plain a =>
    obtain rfl := hu
    have hn := hl n (by simp)
    have hin := Lib.itoa_length_le n hn.1 hn.2
    have c0 := hb.cellAt 0 (v := .int .i64 n) rfl
    have c1 := hb.cellAt 1 (v := .iface 240 (.pointer (some a))) rfl
    have hI := Tryd.strconv_Itoa n hn.1 hn.2 w hp
    have hT : (bText (.plain a)).length ≤ 1000000 := by omega
    have hfin : tx (eText (n :: []) (some (.plain a))) = tx ((Lib.itoa n ++ [58, 32]) ++ bText (.plain a)) := rfl
    rw [hfin]
    clear hfin hbl
    generalize Lib.itoa n = d at *
    generalize htx : bText (.plain a) = T at *
    go_enter Tryd.func32, Tryd.ntmps32
    go_wp2_with fail
    refine hI.mono ?_
    rintro e w1 ⟨rfl, k, os, rfl⟩
    have s1 := same_grow w k os
    generalize grow (w.drewN k) os = w1 at *
    have hb1 := s1.blk hb (fun x => x)
    have d1 := hb1.cellAt 1 (v := .iface 240 (.pointer (some a))) rfl
    clear hI c0 c1
    go_wp2_with fail
    refine (plain_error w1 a (hpl.same s1)).mono ?_
    rintro e w2 ⟨rfl, rfl⟩
    have s2 : Same w1 w1 := Chg.refl _ _
    subst htx
    clear d1 hb1
    go_wp2_with fail
    go_ret
    exact ⟨rfl, s1.trans s2⟩
theorem at_error : ∀ (l : List Int) (B : Option Base) (w : World) (b : Nat) (n : Int) (u : Value), Blk w b #[.int .i64 n, u] 120 → ErrAt w l B u → (∀ m ∈ n :: l, F64 m) → oFits B → l.length ≤ 10000 → Pow w → PlainAt w B →
    Calls Tryd.prog 32 #[.pointer (some ⟨b, 0, none⟩)] w fun e w' => e = .returned (tx (eText (n :: l) B)) ∧ Same w w' := by
  intro l
  induction l with
  | nil =>
    intro B w b n u hb hu hl hf hlen hp hpl
    cases B with
    | some B => exact at_error_base B w b n u hb hu (hl n (by simp)) hf hp hpl
    | none =>
    obtain rfl := hu
    have hn := hl n (by simp)
    have hin := Lib.itoa_length_le n hn.1 hn.2
    have c0 := hb.cellAt 0 (v := .int .i64 n) rfl
    have c1 := hb.cellAt 1 (v := .nilIface) rfl
    have hI := Tryd.strconv_Itoa n hn.1 hn.2 w hp
    have hfin : tx (eText (n :: []) none) = tx (Lib.itoa n ++ [58, 32]) := by simp [eText, oText]
    rw [hfin]
    clear hfin
    generalize Lib.itoa n = d at *
    go_enter Tryd.func32, Tryd.ntmps32
    go_wp2_with fail
    refine hI.mono ?_
    rintro e w1 ⟨rfl, kk, os, rfl⟩
    have s1 := same_grow w kk os
    generalize grow (w.drewN kk) os = w1 at *
    have hb1 := s1.blk hb (fun x => x)
    have d1 := hb1.cellAt 1 (v := .nilIface) rfl
    clear hI c0 c1
    go_wp2_with fail
    go_ret
    exact ⟨congrArg (fun s => Ending.returned (Value.string s)) (ByteArray.ext (by simp)), s1⟩
  | cons m l ih =>
    intro B w b n u hb hu hl hf hlen hp hpl
    obtain ⟨b2, u2, rfl, hb2, hu2⟩ := hu
    have hn := hl n (by simp)
    have hin := Lib.itoa_length_le n hn.1 hn.2
    have c0 := hb.cellAt 0 (v := .int .i64 n) rfl
    have c1 := hb.cellAt 1 (v := .iface 59 (.pointer (some ⟨b2, 0, none⟩))) rfl
    have hI := Tryd.strconv_Itoa n hn.1 hn.2 w hp
    have hbl := eText_len (m :: l) B (fun k hk => hl k (by simp at hk ⊢; exact Or.inr hk)) hf
    have hT : (eText (m :: l) B).length ≤ 1000000 := by simp at hlen hbl; omega
    have hfin : tx (eText (n :: m :: l) B) = tx ((Lib.itoa n ++ [58, 32]) ++ eText (m :: l) B) := rfl
    rw [hfin]
    clear hfin hbl
    generalize Lib.itoa n = d at *
    generalize htx : eText (m :: l) B = T at *
    go_enter Tryd.func32, Tryd.ntmps32
    go_wp2_with fail
    refine hI.mono ?_
    rintro e w1 ⟨rfl, kk, os, rfl⟩
    have s1 := same_grow w kk os
    generalize grow (w.drewN kk) os = w1 at *
    have hb1 := s1.blk hb (fun x => x)
    have d1 := hb1.cellAt 1 (v := .iface 59 (.pointer (some ⟨b2, 0, none⟩))) rfl
    clear hI c0 c1
    go_wp2_with fail
    refine (ih B w1 b2 m u2 (s1.blk hb2 (fun x => x)) (hu2.same s1) (fun k hk => hl k (by simp at hk ⊢; exact Or.inr hk)) hf (by simp at hlen; omega) (hp.same s1) (hpl.same s1)).mono ?_
    rintro e w2 ⟨he, s2⟩
    have he' : e = .returned (tx T) := by rw [← htx]; exact he
    subst he'
    clear he
    clear d1 hb1 htx
    go_wp2_with fail
    go_ret
    exact ⟨congrArg (fun s => Ending.returned (Value.string s)) (ByteArray.ext (by simp)), s1.trans s2⟩
end Go.Proofs.YtgdjbfcdkibdbaaDoor
