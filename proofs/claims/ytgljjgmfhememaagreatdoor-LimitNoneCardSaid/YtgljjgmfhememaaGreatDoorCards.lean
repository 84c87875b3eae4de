/-
  DERIVED. GIVEN WITH THE SEED: THE CARDS: each row of YtgljjgmfhememaaGreatDoorRows.lean that lists a variable, with what it lists TIED to the program's text (the seventh form; the later family's looks); each row that meets fmt, with fmt's text TOLD by the authors' own Lean function (tested against real Go, not proved from fmt's source: count such statements apart). THE CARD IS WHAT COUNTS. Prove the row's statement (the work); the ties are given (YtgljjgmfhememaaGreatDoorTie.lean); close each card by the builder's one call (the guide's Derived/Test/ToyasCard.lean, 'card_holds'). Laid BY PROGRAM, IN A SANDBOX (cutbox-door.mjs). By AI agents, Wed Nov 11 2026. No macro, syntax, notation, axiom, sorry.
-/
import Derived.Test.YtgljjgmfhememaaGreatDoorRows
import GoSem.ClaimSeven
namespace Go.Proofs.YtgljjgmfhememaaGreatDoor
namespace Rows

/-- THE TIED CARD OF 'treadlelaw16.JoinNone'. -/
def joinNoneCard : Claim7 := { stood := { row := joinNoneRow, standIns := [], harness := (true, "c081c9456c41a9356ccc47821ec74e7fff29d2994221b966fe7017478d05d869"), looks := true }, kinds := [], alts := [], goes := true, laidByText := true, laidKinds := [.handle], laidTests := true, laidLooks := .later }
def JoinNoneCardSaid : Prop := Claim7.holds Tryz.pinned (.plain (OpenSpec.ofChange joinNoneSpec)) joinNoneCard

/-- THE TIED CARD OF 'treadlelaw17.LimitNone'. -/
def limitNoneCard : Claim7 := { stood := { row := limitNoneRow, standIns := [], harness := (true, "c081c9456c41a9356ccc47821ec74e7fff29d2994221b966fe7017478d05d869"), looks := true }, kinds := [], alts := [], goes := true, laidByText := true, laidKinds := [.handle], laidTests := true, laidLooks := .later }
def LimitNoneCardSaid : Prop := Claim7.holds Tryz.pinned (.plain (OpenSpec.ofChange limitNoneSpec)) limitNoneCard

/-- THE TIED CARD OF 'treadlelaw17.LimitOrder'. -/
def limitOrderCard : Claim7 := { stood := { row := limitOrderRow, standIns := [], harness := (true, "c081c9456c41a9356ccc47821ec74e7fff29d2994221b966fe7017478d05d869"), looks := true }, kinds := [], alts := [], goes := true, laidByText := true, laidKinds := [.handle], laidTests := true, laidLooks := .later }
def LimitOrderCardSaid : Prop := Claim7.holds Tryz.pinned (.plain (OpenSpec.ofChange limitOrderSpec)) limitOrderCard

/-- THE TIED CARD OF 'treadlelaw12.FaultStops'. -/
def faultStopsCard : Claim7 := { stood := { row := faultStopsRow, standIns := [], harness := (true, "c081c9456c41a9356ccc47821ec74e7fff29d2994221b966fe7017478d05d869"), looks := true }, kinds := [], alts := [], goes := true, laidByText := true, laidKinds := [.data, .data, .data, .handle, .sentinel], laidTests := true, laidLooks := .later }
def FaultStopsCardSaid : Prop := Claim7.holds Tryz.pinned (.plain (OpenSpec.ofChange faultStopsSpec)) faultStopsCard

/-- THE TIED CARD OF 'treadlelaw19.ScopeNone'. -/
def scopeNoneCard : Claim7 := { stood := { row := scopeNoneRow, standIns := [], harness := (true, "c081c9456c41a9356ccc47821ec74e7fff29d2994221b966fe7017478d05d869"), looks := true }, kinds := [], alts := [], goes := true, laidByText := true, laidKinds := [.data, .data, .data, .handle, .sentinel], laidTests := true, laidLooks := .later }
def ScopeNoneCardSaid : Prop := Claim7.holds Tryz.pinned (.plain (OpenSpec.ofChange scopeNoneSpec)) scopeNoneCard

/-- THE TIED CARD OF 'treadlelaw14.FutureOnce'. -/
def futureOnceCard : Claim7 := { stood := { row := futureOnceRow, standIns := [], harness := (true, "c081c9456c41a9356ccc47821ec74e7fff29d2994221b966fe7017478d05d869"), looks := true }, kinds := [], alts := [], goes := true, laidByText := true, laidKinds := [.sentinel], laidTests := true, laidLooks := .later }
def FutureOnceCardSaid : Prop := Claim7.holds Tryz.pinned (.plain (OpenSpec.ofChange futureOnceSpec)) futureOnceCard
end Rows
end Go.Proofs.YtgljjgmfhememaaGreatDoor
