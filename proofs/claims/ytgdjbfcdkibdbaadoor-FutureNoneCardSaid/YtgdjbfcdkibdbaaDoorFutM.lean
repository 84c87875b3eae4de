/- Package future with a nil thread, one goroutine: Map of one that is filled with a value. Conditions: none. -/
import Derived.Test.YtgdjbfcdkibdbaaDoorFutC
namespace Go.Proofs.YtgdjbfcdkibdbaaDoor
open Go Go.RowKit
set_option maxRecDepth 100000
set_option maxHeartbeats 1000000
variable {w : World} {b s l lb hb pb : Nat} {st last head v : Int} {pl : Array Value} {x : Value}
/-- The function that is mapped: what it answers to v, memory left as it was. -/
def Maps (w : World) (F : Nat) (cap : Array Value) (v u : Int) : Prop := ∀ w1, Same w w1 → Calls Tryd.prog F (#[.int .i64 v] ++ cap) w1 fun e w2 => e = .returned (.tuple #[.int .i64 u, .nilIface]) ∧ Same w1 w2
theorem Maps.same {w w' : World} {F : Nat} {cap : Array Value} {v u : Int} (h : Maps w F cap v u) (hs : Same w w') : Maps w' F cap v u := fun w1 h1 => h w1 (hs.trans h1)
theorem map11 (w : World) (fb vb : Nat) (F : Nat) (cap : Array Value) (v u : Int) (hF : Blk w fb #[.func (.func F) #[] cap] 102) (hV : Blk w vb #[.int .i64 v] 2)
    (hE : ∀ a1 w, (callFunc F (#[a1] ++ cap)).run Tryd.prog w = .ok (.enter F (#[a1] ++ cap)) w) (hf : Maps w F cap v u) :
    Calls Tryd.prog 89 #[.pointer (some ⟨fb, 0, none⟩), .pointer (some ⟨vb, 0, none⟩)] w fun e w' => e = .returned (.tuple #[.int .i64 u, .nilIface]) ∧ Same w w' := by
  have c1 := hF.cellAt 0 (v := .func (.func F) #[] cap) rfl
  have c2 := hV.cellAt 0 (v := .int .i64 v) rfl
  go_enter Tryd.func89, Tryd.ntmps89
  go_wp2_with fail
  refine (hf _ (Chg.refl _ _)).mono ?_
  rintro e w1 ⟨rfl, g⟩
  go_wp2_with fail
  go_ret2
  exact ⟨rfl, g⟩
theorem makeFunc89 (w : World) (a c : Addr) : (Instr.makeFunc (.func 89) #[] #[.pointer (some a), .pointer (some c)]).run Tryd.prog w = .ok (.func (.func 89) #[] #[.pointer (some a), .pointer (some c)]) w := by kernel_rfl
theorem map1 (w : World) (fb gb : Nat) (F : Nat) (cap : Array Value) (v u : Int) (hF : Blk w fb #[.func (.func F) #[] cap] 102) (hG : Blk w gb #[.pointer (some ⟨b, 0, none⟩)] 94)
    (hE : ∀ a1 w, (callFunc F (#[a1] ++ cap)).run Tryd.prog w = .ok (.enter F (#[a1] ++ cap)) w) (hf : Maps w F cap v u) (h : FutAt w b s l lb hb pb 0 last 0 pl 0 .nilIface) :
    Calls Tryd.prog 88 #[.pointer none, .int .i64 v, .nilIface, .pointer (some ⟨fb, 0, none⟩), .pointer (some ⟨gb, 0, none⟩)] w fun e w' => e = .returned (.tuple #[]) ∧ Chg (fun k => k = b ∨ k = s ∨ k = hb) w w' ∧ FutAt w' b s l lb hb pb 2 last (-1) pl u .nilIface := by
  have hlt := h.lt
  have hfl := hF.lt
  have hgl := hG.lt
  have hm := makeFunc89
  go_enter Tryd.func88, Tryd.ntmps88
  go_wp2_with fail
  have hV1 : Blk (w.alloc (.cells #[.int .i64 v] 2)) w.heap.size #[.int .i64 v] 2 := Blk.new _ _ _
  have s1 : Same w (w.alloc (.cells #[.int .i64 v] 2)) := (Chg.refl _ _).alloc _
  generalize w.alloc (.cells #[.int .i64 v] 2) = w1 at *
  have hz1 := hV1.lt
  refine (catch_value 89 #[.pointer (some ⟨fb, 0, none⟩), .pointer (some ⟨w.heap.size, 0, none⟩)] w1 u (fun w3 => Same w1 w3) (fun _ => by kernel_rfl) ?_).mono ?_
  · have sc : Same w1 (catchW w1) := ((Chg.refl _ _).alloc _).alloc _
    have b1 : Blk (catchW w1) w1.heap.size #[.int .i64 0] 2 := (Blk.new _ _ _).alloc _
    have b2 : Blk (catchW w1) (w1.heap.size + 1) #[.nilIface] 27 := Blk.neww (by simp) _ _
    refine (map11 (catchW w1) fb w.heap.size F cap v u ((s1.trans sc).blk hF (fun x => x)) (sc.blk hV1 (fun x => x)) hE (hf.same (s1.trans sc))).mono ?_
    rintro e w2 ⟨rfl, g⟩
    exact ⟨rfl, g.blk b1 (fun x => x), g.blk b2 (fun x => x), sc.trans g⟩
  rintro e w2 ⟨rfl, w3, g3, g4⟩
  have s2 : Same w1 w2 := g3.trans' g4 (fun i hi e => by omega)
  have hV2 := s2.blk hV1 (fun x => x)
  have zV := hV2.free 0
  have cV := hV2.cellAt 0 (v := .int .i64 v) rfl
  clear g3 g4 hV1 
  have hs2 := s1.trans s2
  have h2 := h.chg hs2 (fun x => x) (fun x => x) (fun x => x) (fun x => x) (fun x => x) (fun x => x)
  have hG2 := hs2.blk hG (fun x => x)
  have hcv : Chg (fun k => k = w.heap.size) w2 (w2.setCell ⟨w.heap.size, 0, none⟩ (.int .i64 u)) := set_chg _ _ _
  have h3 := h2.chg hcv (by omega) (by omega) (by omega) (by omega) (by omega) (by omega)
  have hG3 := hcv.blk hG2 (show ¬ gb = w.heap.size by omega)
  have hV3 := hV2.set 0 (.int .i64 u)
  have cG := hG3.cellAt 0 (v := .pointer (some ⟨b, 0, none⟩)) rfl
  have cV3 := hV3.cellAt 0 (v := .int .i64 u) rfl
  have hc3 : Chg (fun k => k = b ∨ k = s ∨ k = hb) w (w2.setCell ⟨w.heap.size, 0, none⟩ (.int .i64 u)) := (Chg.mono hs2 (fun _ _ e => e.elim)).trans' hcv (fun i hi e => by omega)
  clear hV2 h2 hG2 hcv hV3 hG3
  go_wp2_with fail
  refine (fut_complete_none u h3).mono ?_
  rintro e w4 ⟨rfl, h4, g4⟩
  go_wp2_with fail
  go_end0
  exact ⟨rfl, hc3.trans g4, h4⟩
theorem makeFunc88 (w : World) (a c : Addr) : (Instr.makeFunc (.func 88) #[] #[.pointer (some a), .pointer (some c)]).run Tryd.prog w = .ok (.func (.func 88) #[] #[.pointer (some a), .pointer (some c)]) w := by kernel_rfl
def Mapped (w : World) (u : Int) (e : Ending) (w' : World) : Prop := ∃ b s l lb hb pb pl, e = .returned (.tuple #[.pointer (some ⟨b, 0, none⟩), .int .i64 0]) ∧ FutAt w' b s l lb hb pb 2 0 (-1) pl u .nilIface ∧ w.heap.size ≤ b ∧ w.heap.size ≤ s ∧ w.heap.size ≤ l ∧ w.heap.size ≤ lb ∧ w.heap.size ≤ hb ∧ w.heap.size ≤ pb ∧ Same w w'
theorem fut_map_done (F : Nat) (cap : Array Value) (u : Int) (h : FutAt w b s l lb hb pb st last (-1) pl v .nilIface)
    (hE : ∀ a1 w, (callFunc F (#[a1] ++ cap)).run Tryd.prog w = .ok (.enter F (#[a1] ++ cap)) w) (hf : Maps w F cap v u) (hnn : ∀ w, (binOp .eql 102 (.func (.func F) #[] cap) .nilFunc).run Tryd.prog w = .ok (.bool false) w) :
    Calls Tryd.prog 55 #[.pointer (some ⟨b, 0, none⟩), .pointer none, .func (.func F) #[] cap] w (Mapped w u) := by
  have hlt := h.lt
  have hm := makeFunc88
  have hF1 : Blk (w.alloc (.cells #[.func (.func F) #[] cap] 102)) w.heap.size #[.func (.func F) #[] cap] 102 := Blk.new _ _ _
  have s1 : Same w (w.alloc (.cells #[.func (.func F) #[] cap] 102)) := (Chg.refl _ _).alloc _
  have h1 := h.chg s1 (fun x => x) (fun x => x) (fun x => x) (fun x => x) (fun x => x) (fun x => x)
  have cf := hF1.cellAt 0 (v := .func (.func F) #[] cap) rfl
  go_enter Tryd.func55, Tryd.ntmps55
  go_wp2_with (first | (go_at_call 86; refine (fut_made _ _ _ _ h1.blk rfl).mono ?_; rintro e w' ⟨rfl, rfl⟩))
  generalize w.alloc (.cells #[.func (.func F) #[] cap] 102) = w1 at *
  refine (fut_new w1).mono ?_
  rintro e w2 ⟨b', s', l', lb', hb', pb', rfl, g2, z1, z2, z3, z4, z5, z6, s2⟩
  have hlt2 := g2.lt
  have hF2 := s2.blk hF1 (fun x => x)
  have hFl := hF1.lt
  have h2 := h1.chg s2 (fun x => x) (fun x => x) (fun x => x) (fun x => x) (fun x => x) (fun x => x)
  clear cf hF1 h1 
  go_wp2_with fail
  have hG3 : Blk (w2.alloc (.cells #[.pointer (some ⟨b', 0, none⟩)] 94)) w2.heap.size #[.pointer (some ⟨b', 0, none⟩)] 94 := Blk.new _ _ _
  have s3 : Same w2 (w2.alloc (.cells #[.pointer (some ⟨b', 0, none⟩)] 94)) := (Chg.refl _ _).alloc _
  generalize w2.alloc (.cells #[.pointer (some ⟨b', 0, none⟩)] 94) = w3 at *
  have hGl := hG3.lt
  have hF3 := s3.blk hF2 (fun x => x)
  have h3 := h2.chg s3 (fun x => x) (fun x => x) (fun x => x) (fun x => x) (fun x => x) (fun x => x)
  have g3 := g2.chg s3 (fun x => x) (fun x => x) (fun x => x) (fun x => x) (fun x => x) (fun x => x)
  clear hF2 h2 g2
  have s13 : Same w w3 := (s1.trans s2).trans s3
  have hsz := s1.size
  have hsz2 := s2.size
  refine (fut_then_done h3 88 #[.pointer (some ⟨w.heap.size, 0, none⟩), .pointer (some ⟨w2.heap.size, 0, none⟩)] (fun k => k = b' ∨ k = s' ∨ k = hb') (fun W => FutAt W b' s' l' lb' hb' pb' 2 0 (-1) fpl0 u .nilIface) (fun _ _ _ _ => by kernel_rfl) (by omega) (fun w4 s4 => map1 w4 w.heap.size w2.heap.size F cap v u (s4.blk hF3 (fun x => x)) (s4.blk hG3 (fun x => x)) hE (hf.same (s13.trans s4)) (g3.chg s4 (fun x => x) (fun x => x) (fun x => x) (fun x => x) (fun x => x) (fun x => x)))).mono ?_
  rintro e w5 ⟨rfl, g5, s5⟩
  have hG5 := s5.blk hG3 (by omega)
  have cG := hG5.cellAt 0 (v := .pointer (some ⟨b', 0, none⟩)) rfl
  have s15 : Same w w5 := s13.trans' s5 (fun i hi e => by omega)
  go_wp2_with fail
  go_ret2
  exact ⟨b', s', l', lb', hb', pb', fpl0, rfl, g5, by omega, by omega, by omega, by omega, by omega, by omega, s15⟩
end Go.Proofs.YtgdjbfcdkibdbaaDoor
