/- Package limit: what is refused; what the functions do that ring, or that hang on a future. Conditions: none. -/
import Derived.Test.YtgljjgmfhememaaGreatDoorLimC
import Derived.Test.YtgljjgmfhememaaGreatDoorClass
namespace Go.Proofs.YtgljjgmfhememaaGreatDoor
open Go Go.RowKit Go.Sort
set_option maxRecDepth 100000
set_option maxHeartbeats 2000000
variable {w : World} {N : Nat} {now : Int} {st due : Nat → Int} {fs : Nat → Value}
theorem NoClk.same {w' : World} {p : Option Addr} (h : NoClk w p) (s : Same w w') : NoClk w' p := by
  rcases h with rfl | ⟨b, cs, rfl, hb, h0⟩
  · exact .inl rfl
  · exact .inr ⟨b, cs, rfl, s.blk hb (fun x => x), h0⟩
theorem within_none_clk (p : Option Addr) (f : Value) (d : Int) (h : NoClk w p) : Calls Tryz.prog 21 #[.pointer none, .pointer p, f, .int .i64 d] w fun e w' => e = .returned (.tuple #[.pointer none, .int .i64 2]) ∧ Same w w' := by
  have hA := h.same ((Chg.refl (fun _ => False) w).alloc (.cells #[.pointer p] 50))
  have sA : Same w (w.alloc (.cells #[.pointer p] 50)) := (Chg.refl _ _).alloc _
  have HA := Lib.hid (And.intro hA sA)
  clear hA sA h
  go_enter Tryz.func21, Tryz.ntmps21
  go_wp2_with fail
  refine (limit_none_yes _ HA.out.1).mono ?_
  rintro e w1 ⟨rfl, s1⟩
  go_wp2_with fail
  go_ret2
  exact ⟨rfl, HA.out.2.trans s1⟩
theorem within_none_fut (h : Clk w N now 0 st due fs) (d : Int) : Calls Tryz.prog 21 #[.pointer none, .pointer (some ⟨N + 2, 0, none⟩), .pointer none, .int .i64 d] w fun e w' => e = .returned (.tuple #[.pointer none, .int .i64 2]) ∧ Same w w' := by
  have hA := h.chg ((Chg.refl (fun _ => False) w).alloc (.cells #[.pointer (some ⟨N + 2, 0, none⟩)] 50)) (fun _ _ _ x => x)
  have sA : Same w (w.alloc (.cells #[.pointer (some ⟨N + 2, 0, none⟩)] 50)) := (Chg.refl _ _).alloc _
  have HA := Lib.hid (And.intro hA sA)
  clear hA sA h
  go_enter Tryz.func21, Tryz.ntmps21
  go_wp2_with fail
  refine (limit_none_no HA.out.1).mono ?_
  rintro e w1 ⟨rfl, s1⟩
  go_wp2_with fail
  refine (fut_none_then _ none _ (.inl rfl)).mono ?_
  rintro e _ ⟨rfl, rfl⟩
  go_wp2_with fail
  go_ret2
  exact ⟨rfl, HA.out.2.trans s1⟩
theorem within_neg (h : Clk w N now 0 st due fs) (r : FR) (hs : List (Nat × Array Value)) (hr : FutF w r hs) (d : Int) (hd : d < 0) : Calls Tryz.prog 21 #[.pointer none, .pointer (some ⟨N + 2, 0, none⟩), .pointer (some ⟨r.b, 0, none⟩), .int .i64 d] w fun e w' => e = .returned (.tuple #[.pointer none, .int .i64 1]) ∧ Same w w' := by
  have hA := h.chg ((Chg.refl (fun _ => False) w).alloc (.cells #[.pointer (some ⟨N + 2, 0, none⟩)] 50)) (fun _ _ _ x => x)
  have sA : Same w (w.alloc (.cells #[.pointer (some ⟨N + 2, 0, none⟩)] 50)) := (Chg.refl _ _).alloc _
  have HA := Lib.hid (And.intro hA (And.intro sA (hr.chg sA (fun _ _ x => x))))
  have e0 : decide (d < 0) = true := decide_eq_true hd
  clear hA sA h hr
  go_enter Tryz.func21, Tryz.ntmps21
  go_wp2_with fail
  refine (limit_none_no HA.out.1).mono ?_
  rintro e w1 ⟨rfl, s1⟩
  have HS := Lib.hid s1
  clear s1
  go_wp2_with fail
  refine (made_then_nil _ _ (HA.out.2.2.chg HS.out (fun _ _ x => x)).n.made).mono ?_
  rintro e _ ⟨rfl, rfl⟩
  go_wp2_with fail
  go_ret2
  exact ⟨rfl, HA.out.2.1.trans HS.out⟩
theorem deadline_none_clk (p : Option Addr) (f : Value) (d : Int) (h : NoClk w p) : Calls Tryz.prog 22 #[.pointer none, .pointer p, f, .int .i64 d] w fun e w' => e = .returned (.tuple #[.pointer none, .int .i64 2]) ∧ Same w w' := by
  have hA := h.same ((Chg.refl (fun _ => False) w).alloc (.cells #[.pointer p] 50))
  have sA : Same w (w.alloc (.cells #[.pointer p] 50)) := (Chg.refl _ _).alloc _
  have HA := Lib.hid (And.intro hA sA)
  clear hA sA h
  go_enter Tryz.func22, Tryz.ntmps22
  go_wp2_with fail
  refine (limit_none_yes _ HA.out.1).mono ?_
  rintro e w1 ⟨rfl, s1⟩
  go_wp2_with fail
  go_ret2
  exact ⟨rfl, HA.out.2.trans s1⟩
theorem deadline_bare (h : Clk w N now 0 st due fs) (b : Nat) (cs : Array Value) (hb : Blk w b cs 65) (h3 : cs[0]? = some (.pointer none)) (d : Int) : Calls Tryz.prog 22 #[.pointer none, .pointer (some ⟨N + 2, 0, none⟩), .pointer (some ⟨b, 0, none⟩), .int .i64 d] w fun e w' => e = .returned (.tuple #[.pointer none, .int .i64 2]) ∧ Same w w' := by
  have hA := h.chg ((Chg.refl (fun _ => False) w).alloc (.cells #[.pointer (some ⟨N + 2, 0, none⟩)] 50)) (fun _ _ _ x => x)
  have sA : Same w (w.alloc (.cells #[.pointer (some ⟨N + 2, 0, none⟩)] 50)) := (Chg.refl _ _).alloc _
  have HA := Lib.hid (And.intro hA (And.intro sA (And.intro (hb.alloc (.cells #[.pointer (some ⟨N + 2, 0, none⟩)] 50)) h3)))
  clear hA sA h hb h3
  go_enter Tryz.func22, Tryz.ntmps22
  go_wp2_with fail
  refine (limit_none_no HA.out.1).mono ?_
  rintro e w1 ⟨rfl, s1⟩
  go_wp2_with fail
  refine (tok_on_bare _ _ (s1.blk HA.out.2.2.1 (fun x => x)) HA.out.2.2.2 _).mono ?_
  rintro e _ ⟨rfl, rfl⟩
  go_wp2_with fail
  go_ret2
  exact ⟨rfl, HA.out.2.1.trans s1⟩
theorem deadline_neg (h : Clk w N now 0 st due fs) (r : TR) (pl : Array Value) (hr : Tok w r 0 0 0 pl 0) (d : Int) (hd : d < 0) : Calls Tryz.prog 22 #[.pointer none, .pointer (some ⟨N + 2, 0, none⟩), .pointer (some ⟨r.b, 0, none⟩), .int .i64 d] w fun e w' => e = .returned (.tuple #[.pointer none, .int .i64 1]) ∧ Same w w' := by
  have hA := h.chg ((Chg.refl (fun _ => False) w).alloc (.cells #[.pointer (some ⟨N + 2, 0, none⟩)] 50)) (fun _ _ _ x => x)
  have sA : Same w (w.alloc (.cells #[.pointer (some ⟨N + 2, 0, none⟩)] 50)) := (Chg.refl _ _).alloc _
  have HA := Lib.hid (And.intro hA (And.intro sA (hr.chg sA (fun _ _ x => x))))
  have e0 : decide (d < 0) = true := decide_eq_true hd
  clear hA sA h hr
  go_enter Tryz.func22, Tryz.ntmps22
  go_wp2_with fail
  refine (limit_none_no HA.out.1).mono ?_
  rintro e w1 ⟨rfl, s1⟩
  have HS := Lib.hid s1
  clear s1
  go_wp2_with fail
  refine (tok_on_nil (HA.out.2.2.chg HS.out (fun _ _ x => x))).mono ?_
  rintro e _ ⟨rfl, rfl⟩
  go_wp2_with fail
  go_ret2
  exact ⟨rfl, HA.out.2.1.trans HS.out⟩
/-- Filled as late; the error lies at B or above. -/
def FutLate (w : World) (g : FR) (T : Int) (B : Nat) : Prop := ∃ last pl eb, B ≤ eb ∧ FutAt w g.b g.s g.l g.lb g.hb g.pb 3 last (-1) pl 0 (.iface 154 (.pointer (some ⟨eb, 0, none⟩))) ∧ Blk w eb #[.int .i64 T] 156
theorem complete_late (w : World) (g : FR) (eb : Nat) (h : FutF w g []) : Calls Tryz.prog 28 #[.pointer (some ⟨g.b, 0, none⟩), .pointer none, .int .i64 0, .iface 154 (.pointer (some ⟨eb, 0, none⟩))] w fun e w' => e = .returned (.bool true) ∧ (∃ last pl, FutAt w' g.b g.s g.l g.lb g.hb g.pb 3 last (-1) pl 0 (.iface 154 (.pointer (some ⟨eb, 0, none⟩)))) ∧ Chg g.has w w' := by
  obtain ⟨pl, h, _⟩ := h
  have h' : FutAt w g.b g.s g.l g.lb g.hb g.pb 0 0 0 pl 0 .nilIface := h
  have hlt := h'.lt
  have H := Lib.hid h'
  clear h h'
  go_enter Tryz.func28, Tryz.ntmps28
  go_wp2_with fail
  refine (fut_claim H.out).mono ?_
  rintro e w1 ⟨p, rfl, h1, hp, hz, g1⟩
  go_wp2_with fail
  refine (fut_fill_fail p 0 _ _ h1 hp).mono ?_
  rintro e w2 ⟨rfl, h2, _, g2⟩
  have H2 := Lib.hid h2
  clear h2
  go_wp2_with fail
  go_ret
  exact ⟨rfl, ⟨_, _, H2.out⟩, (g1.mono (S' := g.has) (fun k _ e => by have e : k = g.s := e; unfold FR.has; omega)).trans' g2 (fun i hi e => by unfold FR.has; omega)⟩
theorem ring_late (w : World) (g : FR) (ka kb : Nat) (T : Int) (B : Nat) (hB : B ≤ w.heap.size) (ha : Blk w ka #[.pointer (some ⟨g.b, 0, none⟩)] 24) (hb : Blk w kb #[.int .i64 T] 2) (hg : FutF w g []) :
    Calls Tryz.prog 72 #[.pointer none, .pointer (some ⟨ka, 0, none⟩), .pointer (some ⟨kb, 0, none⟩)] w fun e w' => e = .returned (.tuple #[]) ∧ FutLate w' g T B ∧ Chg g.has w w' := by
  have c0 := ha.cellAt 0 (v := .pointer (some ⟨g.b, 0, none⟩)) rfl
  have c1 := hb.cellAt 0 (v := .int .i64 T) rfl
  have sA : Same w (w.alloc (.cells #[.int .i64 T] 156)) := (Chg.refl _ _).alloc _
  have bA : Blk (w.alloc (.cells #[.int .i64 T] 156)) w.heap.size #[.int .i64 T] 156 := Blk.new _ _ _
  have H := Lib.hid (And.intro (hg.chg sA (fun _ _ x => x)) (And.intro sA (And.intro bA hg.lt)))
  clear ha hb hg sA bA
  go_enter Tryz.func72, Tryz.ntmps72
  go_wp2_with fail
  refine (complete_late _ _ _ H.out.1).mono ?_
  rintro e w1 ⟨rfl, ⟨la, pl, h1⟩, q1⟩
  have HE := Lib.hid (And.intro h1 q1)
  clear h1 q1
  go_wp2_with fail
  go_end0
  obtain ⟨_, sA, bA, hlt⟩ := H.out
  exact ⟨rfl, ⟨la, pl, _, hB, HE.out.1, HE.out.2.blk bA (fun e => by have := hlt _ e; omega)⟩, (sA.mono (fun _ _ x => x.elim)).trans HE.out.2⟩
end Go.Proofs.YtgljjgmfhememaaGreatDoor
