/-
  DERIVED. GIVEN WITH THE SEED: THE CARDS: each row of YtgdjbfcdkibdbaaDoorRows.lean that lists a variable, with what it lists TIED to the program's text (the seventh form; the later family's looks); each row that meets fmt, with fmt's text TOLD by the authors' own Lean function (tested against real Go, not proved from fmt's source: count such statements apart). THE CARD IS WHAT COUNTS. Prove the row's statement (the work); the ties are given (YtgdjbfcdkibdbaaDoorTie.lean); close each card by the builder's one call (the guide's Derived/Test/ToyasCard.lean, 'card_holds'). Laid BY PROGRAM, IN A SANDBOX (cutbox-door.mjs). By AI agents, Wed Nov 11 2026. No macro, syntax, notation, axiom, sorry.
-/
import Derived.Test.YtgdjbfcdkibdbaaDoorRows
import GoSem.ClaimSeven
namespace Go.Proofs.YtgdjbfcdkibdbaaDoor
namespace Rows

/-- THE TIED CARD OF 'treadlelaw13.TaskNone'. -/
def taskNoneCard : Claim7 := { stood := { row := taskNoneRow, standIns := [], harness := (true, "834c6f71c651e8a95c57740df76b67c67ecad7bcf7d07a4ddc5299ad23692b57"), looks := true }, kinds := [], alts := [], laidByText := true, laidKinds := [.handle], laidTests := true, laidLooks := .later }
def TaskNoneCardSaid : Prop := Claim7.holds Tryd.pinned (.plain (OpenSpec.ofChange taskNoneSpec)) taskNoneCard

/-- THE TIED CARD OF 'treadlelaw12.FaultTells'. -/
def faultTellsCard : Claim7 := { stood := { row := faultTellsRow, standIns := [], harness := (true, "834c6f71c651e8a95c57740df76b67c67ecad7bcf7d07a4ddc5299ad23692b57"), looks := true }, kinds := [], alts := [], laidByText := true, laidKinds := [.data, .data, .data, .handle, .sentinel], laidTests := true, laidLooks := .later }
def FaultTellsCardSaid : Prop := Claim7.holds Tryd.pinned (.plain (OpenSpec.ofChange faultTellsSpec)) faultTellsCard

/-- THE TIED CARD OF 'treadlelaw12.FaultCatches'. -/
def faultCatchesCard : Claim7 := { stood := { row := faultCatchesRow, standIns := [], harness := (true, "834c6f71c651e8a95c57740df76b67c67ecad7bcf7d07a4ddc5299ad23692b57"), looks := true }, kinds := [], alts := [], laidByText := true, laidKinds := [.data, .data, .data, .handle, .sentinel], laidTests := true, laidLooks := .later }
def FaultCatchesCardSaid : Prop := Claim7.holds Tryd.pinned (.plain (OpenSpec.ofChange faultCatchesSpec)) faultCatchesCard

/-- THE TIED CARD OF 'treadlelaw12.FaultOne'. -/
def faultOneCard : Claim7 := { stood := { row := faultOneRow, standIns := [], harness := (true, "834c6f71c651e8a95c57740df76b67c67ecad7bcf7d07a4ddc5299ad23692b57"), looks := true }, kinds := [], alts := [], laidByText := true, laidKinds := [.data, .data, .data, .handle, .sentinel], laidTests := true, laidLooks := .later }
def FaultOneCardSaid : Prop := Claim7.holds Tryd.pinned (.plain (OpenSpec.ofChange faultOneSpec)) faultOneCard

/-- THE TIED CARD OF 'treadlelaw14.FutureNone'. -/
def futureNoneCard : Claim7 := { stood := { row := futureNoneRow, standIns := [], harness := (true, "834c6f71c651e8a95c57740df76b67c67ecad7bcf7d07a4ddc5299ad23692b57"), looks := true }, kinds := [], alts := [], laidByText := true, laidKinds := [.handle], laidTests := true, laidLooks := .later }
def FutureNoneCardSaid : Prop := Claim7.holds Tryd.pinned (.plain (OpenSpec.ofChange futureNoneSpec)) futureNoneCard

/-- THE SECOND FORM's CARD OF 'treadlelaw13.TaskNone'. -/
def taskNoneUptoCard : Claim7 := { stood := { row := taskNoneUptoRow, standIns := [], harness := (true, "834c6f71c651e8a95c57740df76b67c67ecad7bcf7d07a4ddc5299ad23692b57"), looks := true }, kinds := [], alts := [], laidByText := true, laidKinds := [.handle], laidTests := true, laidLooks := .later }
def TaskNoneUptoCardSaid : Prop := Claim7.holds Tryd.pinned (.plain (OpenSpec.upto taskNoneSpec)) taskNoneUptoCard

/-- THE SECOND FORM's CARD OF 'treadlelaw12.FaultTells'. -/
def faultTellsUptoCard : Claim7 := { stood := { row := faultTellsUptoRow, standIns := [], harness := (true, "834c6f71c651e8a95c57740df76b67c67ecad7bcf7d07a4ddc5299ad23692b57"), looks := true }, kinds := [], alts := [], laidByText := true, laidKinds := [.data, .data, .data, .handle, .sentinel], laidTests := true, laidLooks := .later }
def FaultTellsUptoCardSaid : Prop := Claim7.holds Tryd.pinned (.plain (OpenSpec.upto faultTellsSpec)) faultTellsUptoCard

/-- THE SECOND FORM's CARD OF 'treadlelaw12.FaultCatches'. -/
def faultCatchesUptoCard : Claim7 := { stood := { row := faultCatchesUptoRow, standIns := [], harness := (true, "834c6f71c651e8a95c57740df76b67c67ecad7bcf7d07a4ddc5299ad23692b57"), looks := true }, kinds := [], alts := [], laidByText := true, laidKinds := [.data, .data, .data, .handle, .sentinel], laidTests := true, laidLooks := .later }
def FaultCatchesUptoCardSaid : Prop := Claim7.holds Tryd.pinned (.plain (OpenSpec.upto faultCatchesSpec)) faultCatchesUptoCard

/-- THE SECOND FORM's CARD OF 'treadlelaw12.FaultOne'. -/
def faultOneUptoCard : Claim7 := { stood := { row := faultOneUptoRow, standIns := [], harness := (true, "834c6f71c651e8a95c57740df76b67c67ecad7bcf7d07a4ddc5299ad23692b57"), looks := true }, kinds := [], alts := [], laidByText := true, laidKinds := [.data, .data, .data, .handle, .sentinel], laidTests := true, laidLooks := .later }
def FaultOneUptoCardSaid : Prop := Claim7.holds Tryd.pinned (.plain (OpenSpec.upto faultOneSpec)) faultOneUptoCard

/-- THE SECOND FORM's CARD OF 'treadlelaw14.FutureNone'. -/
def futureNoneUptoCard : Claim7 := { stood := { row := futureNoneUptoRow, standIns := [], harness := (true, "834c6f71c651e8a95c57740df76b67c67ecad7bcf7d07a4ddc5299ad23692b57"), looks := true }, kinds := [], alts := [], laidByText := true, laidKinds := [.handle], laidTests := true, laidLooks := .later }
def FutureNoneUptoCardSaid : Prop := Claim7.holds Tryd.pinned (.plain (OpenSpec.upto futureNoneSpec)) futureNoneUptoCard
end Rows
end Go.Proofs.YtgdjbfcdkibdbaaDoor
