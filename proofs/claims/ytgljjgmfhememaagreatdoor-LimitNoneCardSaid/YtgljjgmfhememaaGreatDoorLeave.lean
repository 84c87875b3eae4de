/- From the plain contract of a call that starts nobody to the form that says 'leaving', 'calm' and 'time passes'. Conditions: none. -/
import Derived.Conc.HoldsTime
import Derived.Handed
import Derived.StillGives
import Derived.Leaving
import Derived.LaidLaws
namespace Go.Proofs.YtgljjgmfhememaaGreatDoor
open Go Go.Conc Go.ConcM
theorem os_put_back {w w' : World} {may : MemPlace → Prop} (h : w.keptBut w' may) : { w' with os := w.os } = w' := by
  obtain ⟨e, _⟩ := h
  rw [← e]
theorem leaving_of_handed {H : Type} {enc : TypeId × Value → H} {a : Assume} {C : Checked} {os : Os} {f : FuncId} {fn : Func} {s : ChangeSpec} {F : Stop.Interp} {Pre : World → Array Value → Prop} {apart fresh handsOn : Bool}
    (h : ReturnsInHanded a C os f .any Pre (s.post enc C.prog fn apart fresh handsOn false)) :
    ReturnsInLeavingWide a C os f .any Pre ((OpenSpec.ofChange s).postWith enc C.prog fn F (outsideKept [.timePasses]) apart fresh handsOn) := fun enter => by
  refine ReturnsInOpen.mono_post (fun w args v w' hp => ?_) (ReturnsInOpen.mono (fun m w t x => (⟨x.2.1, onlyLeaving_of_quiet x.1, x.2.2⟩ : leavingAtReturn C.prog m w t)) (fun _ x => x) (h enter))
  have hos : { w' with os := w.os } = w' := by
    obtain ⟨_, _, _, _, _, _, _, _, _, _, hk, _⟩ := hp
    exact os_put_back hk
  refine postWith_of_post (by rw [hos]; exact hp) ?_
  rw [← hos]
  exact OsLater.refl _
theorem witness_calm {H : Type} {enc : TypeId × Value → H} {C : Checked} {os : Os} {f : FuncId} {fn : Func} {s : ChangeSpec} {conds : List PathCond} {apart : Bool} {X : World → Array Value → Prop} (w0 : World) (args : Array Value) (fuel : Nat) (hos : w0.os = os)
    (hsh : (w0.forCall (fun _ _ => 0) ⟨#[], args, []⟩).Shaped C.prog)
    (hok : Input.okWideB C.prog (w0.forCall (fun _ _ => 0) ⟨#[], args, []⟩) f ⟨#[], args, []⟩ = true)
    (hpre : s.preB enc C.prog fn conds apart (w0.forCall (fun _ _ => 0) ⟨#[], args, []⟩).memory args fuel = true)
    (hsz : s.sizedB enc C.prog fn apart (w0.forCall (fun _ _ => 0) ⟨#[], args, []⟩).memory args fuel = true)
    (hx : X (w0.forCall (fun _ _ => 0) ⟨#[], args, []⟩).memory args) :
    ∃ (w : World) (tape : Tape) (i : Input), w.os = os ∧ (w.forCall tape i).Shaped C.prog ∧ i.vars = [] ∧ Input.okWide C.prog (w.forCall tape i) .any w.heap.size f i ∧
      ((s.pre enc C.prog fn conds apart (w.forCall tape i).memory i.args ∧ X (w.forCall tape i).memory i.args) ∧ sizedMet enc C.prog fn (OpenSpec.ofChange s) apart (w.forCall tape i).memory i.args) ∧ ({ calm := true } : Assume).holds C.prog (lone (Frame.enter C.prog f i.args .normal) [] (w.forCall tape i)) :=
  ⟨w0, fun _ _ => 0, ⟨#[], args, []⟩, hos, hsh, (Input.okWide_of_okWideB (base := 0) hok).1, (Input.okWide_of_okWideB hok).2, ⟨⟨ChangeSpec.pre_of_preB hpre, hx⟩, sizedMet_of_sizedB hsz⟩, by
    simp only [Assume.holds]
    exact ⟨by simp, fun _ _ _ _ => rfl, by simp, by simp, by simp⟩⟩
end Go.Proofs.YtgljjgmfhememaaGreatDoor
