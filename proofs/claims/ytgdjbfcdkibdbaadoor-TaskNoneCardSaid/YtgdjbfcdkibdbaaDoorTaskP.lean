/- Package task with a nil thread, one goroutine: Run, of a task whose body panics. Conditions: none. -/
import Derived.Test.YtgdjbfcdkibdbaaDoorTaskV
namespace Go.Proofs.YtgdjbfcdkibdbaaDoor
open Go Go.RowKit
set_option maxRecDepth 100000
set_option maxHeartbeats 1000000
set_option linter.unusedSimpArgs false
theorem run_catch_panic (w W : World) (b s : Nat) (F : Nat) (cap : Array Value) (cs : Array Value) (hcs : cs[2]? = some (.func (.func F) #[] cap))
    (hE : ∀ a w, (callFunc F (#[a] ++ cap)).run Tryd.prog w = .ok (.enter F (#[a] ++ cap)) w)
    (hb : b < w.heap.size) (hs : s < w.heap.size)
    (u : TypeId) (x : Value) (hns : u ≠ 183) (S : Nat → Prop) (Q : World → World → Prop) (hS : Free w b s S)
    (hf : ∀ w1, Chg (· = s) w w1 → Calls Tryd.prog F (#[.pointer none] ++ cap) w1 fun e w3 => e = .panicked [{ v := .iface u x, recovered := false }] ∧ Chg S w1 w3 ∧ Q w1 w3)
    (hW : Chg (· = s) w W) (hR : RunS W w.heap.size b cs) (hC : CellAt W s 1) (hlt : w.heap.size + 1 < W.heap.size) :
    Calls Tryd.prog 39 #[.func (.func 66) #[] #[.pointer (some ⟨w.heap.size, 0, none⟩), .pointer (some ⟨w.heap.size + 1, 0, none⟩)]] W fun e w' =>
      ∃ p, e = .returned (.tuple #[.int .i64 0, .iface 58 (.pointer (some ⟨p, 0, none⟩))]) ∧ w.heap.size + 1 < p ∧ Blk w' p #[.iface u x] 78 ∧ RunS w' w.heap.size b cs ∧ CellAt w' s 1 ∧ ∃ wa w3, Chg (· = s) w wa ∧ Chg S wa w3 ∧ Q wa w3 ∧ Chg (fun k => w.heap.size ≤ k) w3 w' := by
  have hw := hW.size
  have h1 : Chg (· = s) w (catchW W).drew := ((hW.alloc _).alloc _).drew
  have hR' : RunS (catchW W) w.heap.size b cs := ⟨(hR.box.alloc _).alloc _, (hR.thr.alloc _).alloc _, (hR.blk.alloc _).alloc _⟩
  have hn : ∀ k, w.heap.size ≤ k → ¬ S k := fun k hk e => by have := (hS k e).1; omega
  refine (catch_panic 66 _ W u x hns (fun w3 => RunS w3 w.heap.size b cs ∧ CellAt w3 s 1 ∧ ∃ wa, Chg (· = s) w wa ∧ Chg S wa w3 ∧ Q wa w3) (enter66 _) ?_).mono ?_
  · refine (run1_panic (catchW W) w.heap.size b F cap (fun w3 => Blk w3 W.heap.size #[.int .i64 0] 2 ∧ Blk w3 (W.heap.size + 1) #[.nilIface] 27 ∧ RunS w3 w.heap.size b cs ∧ CellAt w3 s 1 ∧ ∃ wa, Chg (· = s) w wa ∧ Chg S wa w3 ∧ Q wa w3) cs hR' hcs hE u x ?_)
    refine (hf _ h1).mono ?_
    rintro e w3 ⟨rfl, g1, g2⟩
    have hr3 : RunS w3 w.heap.size b cs := hR'.drew.chg g1 (hn _ (by omega)) (hn _ (by omega)) (fun e => (hS b e).2.1 rfl)
    refine ⟨rfl, hr3, ?_, ?_, hr3, ?_, _, h1, g1, g2⟩
    · exact g1.blk (((Blk.new _ _ _).alloc _).drew) (hn _ (by omega))
    · exact g1.blk ((Blk.new' (by simp) _ _).drew) (hn _ (by omega))
    · exact g1.blk (((hC.alloc _).alloc _).drew) (fun e => (hS s e).2.2 rfl)
  · rintro e w' ⟨w3, ⟨a1, a2, wa, a3, a4, a5⟩, rfl, a6, a7⟩
    have hsz := a4.size
    have hsz2 := a3.size
    have hsz3 := a1.thr.lt
    refine ⟨w3.heap.size, rfl, hsz3, a7, a1.chg a6 (by omega) (by omega) (by omega), a2.chg a6 (by omega), wa, w3, a3, a4, a5, a6.mono (fun k _ e => by omega)⟩

theorem task_run_panic (w : World) (b s : Nat) (num : Int) (F : Nat) (cap : Array Value) (v0 : Int) (x0 : Value) (h : TaskAt w b s num (.func (.func F) #[] cap) 0 v0 x0)
    (hE : ∀ a w, (callFunc F (#[a] ++ cap)).run Tryd.prog w = .ok (.enter F (#[a] ++ cap)) w)
    (u : TypeId) (x : Value) (hns : u ≠ 183) (S : Nat → Prop) (Q : World → World → Prop) (hS : Free w b s S)
    (hf : ∀ w1, Chg (· = s) w w1 → Calls Tryd.prog F (#[.pointer none] ++ cap) w1 fun e w3 => e = .panicked [{ v := .iface u x, recovered := false }] ∧ Chg S w1 w3 ∧ Q w1 w3) :
    Calls Tryd.prog 9 #[.pointer (some ⟨b, 0, none⟩), .pointer none] w fun e w' => ∃ p, e = .returned (.bool true) ∧ TaskAt w' b s num (.func (.func F) #[] cap) 3 0 (.iface 58 (.pointer (some ⟨p, 0, none⟩))) ∧ w.heap.size ≤ p ∧ Blk w' p #[.iface u x] 78 ∧
      ∃ wa w3, Chg (· = s) w wa ∧ Chg S wa w3 ∧ Q wa w3 ∧ Chg (fun k => k = b ∨ k = s ∨ w.heap.size ≤ k) w3 w' := by
  have h0 : RunS (runW w b) w.heap.size b #[.int .i64 num, .pointer none, (.func (.func F) #[] cap), .pointer (some ⟨s, 0, none⟩), .int .i64 v0, x0] := ⟨(Blk.new _ _ _).alloc _, Blk.new' (by simp) _ _, (h.blk.alloc _).alloc _⟩
  have k0 : CellAt (runW w b) s 0 := (h.cell.alloc _).alloc _
  have hne := h.ne
  have hlt := h.blk.lt
  have hls := h.cell.lt
  have c1 := h0.box.cellAt 0 (v := .pointer (some ⟨b, 0, none⟩)) rfl
  have c2 := h0.thr.cellAt 0 (v := .pointer none) rfl
  have c3 := h0.blk.cellAt 3 (v := .pointer (some ⟨s, 0, none⟩)) rfl
  clear h
  go_enter Tryd.func9, Tryd.ntmps9
  go_wp2_with fail
  go_region_held3 (fun w' => w'.cell? ⟨w.heap.size, 0, none⟩ = some (.pointer (some ⟨b, 0, none⟩)) ∧ w'.cell? ⟨w.heap.size + 1, 0, none⟩ = some (.pointer none) ∧ w'.cell? ⟨b, 3, none⟩ = some (.pointer (some ⟨s, 0, none⟩))) (go_keep)
    (first | (go_at_call 59; refine (task_made _ _ _ _ h0.blk.drew rfl).mono ?_; rintro e w' ⟨rfl, rfl⟩) | (go_at_call 62; refine (cas_ok _ _ _ _ k0.drew).mono ?_; rintro e w' ⟨rfl, g1, g2⟩; have g := h0.drew.chg g2 (show ¬ w.heap.size = s by omega) (show ¬ w.heap.size + 1 = s by omega) hne; have d1 := g.box.cellAt 0 (v := .pointer (some ⟨b, 0, none⟩)) rfl; have d2 := g.thr.cellAt 0 (v := .pointer none) rfl; have d3 := g.blk.cellAt 3 (v := .pointer (some ⟨s, 0, none⟩)) rfl))
  rename World => w1
  have e0 := g.blk.cellAt 0 (v := .int .i64 num) rfl
  have e1 := g.blk.cellAt 1 (v := .pointer none) rfl
  have hz : w.heap.size + 1 < w1.heap.size := g.thr.lt
  have hw1 : Chg (· = s) w w1 := Chg.trans' ((((Chg.refl _ _).alloc _).alloc _).drew) g2 (fun _ _ e => e)
  clear c1 c2 c3 h0 k0 g2
  go_wp2_with fail
  go_quiet ((go_at_call 65; exact quiet_left (mark_nil _ _ _)))
  go_wp2_with fail
  have gW : RunS (w1.drewN nq).drew w.heap.size b _ := ⟨g.box, g.thr, g.blk⟩
  have cW : CellAt (w1.drewN nq).drew s 1 := g1
  have hW : Chg (· = s) w (w1.drewN nq).drew := (hw1.drewN nq).drew
  have hcat := run_catch_panic w (w1.drewN nq).drew b s F cap _ rfl hE hlt hls u x hns S Q hS hf hW gW cW hz
  have HC := Lib.hid hcat
  clear hcat hf hE gW cW hW
  have hnb : ¬ b = w.heap.size := by omega
  go_region_held3 (fun w' => w'.cell? ⟨w.heap.size, 0, none⟩ = some (.pointer (some ⟨b, 0, none⟩))) (go_keep)
    (first | (go_at_call 39; refine HC.out.mono ?_; rintro e w' ⟨p, rfl, hp, p0, p1, p2, p3⟩; have d1 := p1.box.cellAt 0 (v := .pointer (some ⟨b, 0, none⟩)) rfl; have d4 := p1.blk.cellAt 4 (v := .int .i64 v0) rfl; have d5 := p1.blk.cellAt 5 (v := x0) rfl; have z4 := p1.blk.free 4; have z5 := p1.blk.free 5))
  rename World => w4
  clear HC
  have q1 : Blk ((w4.setCell ⟨b, 4, none⟩ (.int .i64 0)).setCell ⟨b, 5, none⟩ (.iface 58 (.pointer (some ⟨p, 0, none⟩)))) w.heap.size #[.pointer (some ⟨b, 0, none⟩)] 22 := (p1.box.set_other (a := ⟨b, 4, none⟩) hnb _).set_other (a := ⟨b, 5, none⟩) hnb _
  have q2 : Blk ((w4.setCell ⟨b, 4, none⟩ (.int .i64 0)).setCell ⟨b, 5, none⟩ (.iface 58 (.pointer (some ⟨p, 0, none⟩)))) (w.heap.size + 1) #[.pointer none] 38 := (p1.thr.set_other (a := ⟨b, 4, none⟩) (show ¬ b = _ by omega) _).set_other (a := ⟨b, 5, none⟩) (show ¬ b = _ by omega) _
  have q0 : Blk ((w4.setCell ⟨b, 4, none⟩ (.int .i64 0)).setCell ⟨b, 5, none⟩ (.iface 58 (.pointer (some ⟨p, 0, none⟩)))) p #[.iface u x] 78 := (p0.set_other (a := ⟨b, 4, none⟩) (show ¬ b = _ by omega) _).set_other (a := ⟨b, 5, none⟩) (show ¬ b = _ by omega) _
  have q3 := (p1.blk.set 4 (.int .i64 0)).set 5 (.iface 58 (.pointer (some ⟨p, 0, none⟩)))
  have q4 : CellAt ((w4.setCell ⟨b, 4, none⟩ (.int .i64 0)).setCell ⟨b, 5, none⟩ (.iface 58 (.pointer (some ⟨p, 0, none⟩)))) s 1 := (Blk.set_other (a := ⟨b, 4, none⟩) p2 hne _).set_other (a := ⟨b, 5, none⟩) hne _
  have hch : Chg (fun k => k = b ∨ k = s ∨ w.heap.size ≤ k) w4 ((w4.setCell ⟨b, 4, none⟩ (.int .i64 0)).setCell ⟨b, 5, none⟩ (.iface 58 (.pointer (some ⟨p, 0, none⟩)))) := ((Chg.refl _ _).setCell (.inl (.inl rfl)) _).setCell (.inl (.inl rfl)) _
  have hsz : w.heap.size + 1 < w4.heap.size := p1.thr.lt
  generalize hw5 : (w4.setCell ⟨b, 4, none⟩ (.int .i64 0)).setCell ⟨b, 5, none⟩ (.iface 58 (.pointer (some ⟨p, 0, none⟩))) = w5 at *
  clear hw5 d1 d2 d3 d4 d5 z4 z5 e0 e1 g g1
  have f1 := q1.cellAt 0 (v := .pointer (some ⟨b, 0, none⟩)) rfl
  have f2 := q2.cellAt 0 (v := .pointer none) rfl
  have f3 := q3.cellAt 0 (v := .int .i64 num) rfl
  have f4 := q3.cellAt 5 (v := (.iface 58 (.pointer (some ⟨p, 0, none⟩)))) rfl
  have f5 := q3.cellAt 3 (v := .pointer (some ⟨s, 0, none⟩)) rfl
  go_wp2_with fail
  go_quiet ((go_at_call 65; exact quiet_left (mark_nil _ _ _)))
  go_wp2_with fail
  have r0 : RunS (w5.drewN nq).drew w.heap.size b _ := ⟨q1, q2, q3⟩
  have r1 : CellAt (w5.drewN nq).drew s 1 := q4
  have q0' : Blk (w5.drewN nq).drew p #[.iface u x] 78 := q0
  have hch5 : Chg (fun k => k = b ∨ k = s ∨ w.heap.size ≤ k) w4 (w5.drewN nq).drew := (hch.drewN nq).drew
  clear hch q0 q1 q2 q3 q4
  go_region_held3 (fun w' => w'.cell? ⟨w.heap.size, 0, none⟩ = some (.pointer (some ⟨b, 0, none⟩)) ∧ w'.cell? ⟨w.heap.size + 1, 0, none⟩ = some (.pointer none) ∧ w'.cell? ⟨b, 3, none⟩ = some (.pointer (some ⟨s, 0, none⟩))) (go_keep)
    (first | (go_at_call 67; refine (store_ok _ _ _ _ r1).mono ?_; rintro e w' ⟨rfl, g1, g2⟩; have g := r0.chg g2 (show ¬ w.heap.size = s by omega) (show ¬ w.heap.size + 1 = s by omega) hne; have d1 := g.box.cellAt 0 (v := .pointer (some ⟨b, 0, none⟩)) rfl; have d2 := g.thr.cellAt 0 (v := .pointer none) rfl; have d3 := g.blk.cellAt 3 (v := .pointer (some ⟨s, 0, none⟩)) rfl))
  rename World => w6
  clear d1 d2 d3 f1 f2 f3 f4 f5
  obtain ⟨wa, w3, t1, t2, t3, t4⟩ := p3
  have T4 := Lib.hid t4
  have HQ := Lib.hid t3
  clear t3 t4
  go_wp2_with fail
  go_ret
  refine ⟨p, rfl, ⟨?_, g1⟩, by omega, g2.blk q0' (show ¬ p = s by omega), wa, w3, t1, t2, HQ.out, ?_⟩
  · have := g.blk
    simpa using this
  · exact ((T4.out.mono (fun k _ e => .inr (.inr e))).trans hch5).trans (g2.mono (fun k _ e => .inr (.inl e)))
end Go.Proofs.YtgdjbfcdkibdbaaDoor
