/-
  DERIVED. GIVEN WITH THE SEED: THE CARDS: each row of YtcgdhpnobgimfaaDoorRows.lean that lists a variable, with what it lists TIED to the program's text (the seventh form; the later family's looks); each row that meets fmt, with fmt's text TOLD by the authors' own Lean function (tested against real Go, not proved from fmt's source: count such statements apart). THE CARD IS WHAT COUNTS. Prove the row's statement (the work); the ties are given (YtcgdhpnobgimfaaDoorTie.lean); close each card by the builder's one call (the guide's Derived/Test/ToyasCard.lean, 'card_holds'). Laid BY PROGRAM, IN A SANDBOX (cutbox-door.mjs). By AI agents, Wed Nov 11 2026. No macro, syntax, notation, axiom, sorry.
-/
import Derived.Test.YtcgdhpnobgimfaaDoorRows
import GoSem.ClaimSeven
namespace Go.Proofs.YtcgdhpnobgimfaaDoor
namespace Rows

/-- THE TIED CARD OF 'regimenlaw44.InputPuts'. -/
def inputPutsCard : Claim7 := { stood := { row := inputPutsRow, standIns := [], harness := (true, "d3a316c9b339410a247f6bf74f57152348ebc786a896ccda6bd9194373500653"), looks := false }, kinds := [], alts := [], laidByText := true, laidKinds := [.data, .pinned], laidTests := true, laidLooks := .later }
def InputPutsCardSaid : Prop := Claim7.holds Tryd.pinned (.plain (OpenSpec.ofChange inputPutsSpec)) inputPutsCard

/-- THE TIED CARD OF 'regimenlaw44.InputGets'. -/
def inputGetsCard : Claim7 := { stood := { row := inputGetsRow, standIns := [], harness := (true, "d3a316c9b339410a247f6bf74f57152348ebc786a896ccda6bd9194373500653"), looks := false }, kinds := [], alts := [], laidByText := true, laidKinds := [.data, .pinned], laidTests := true, laidLooks := .later }
def InputGetsCardSaid : Prop := Claim7.holds Tryd.pinned (.plain (OpenSpec.ofChange inputGetsSpec)) inputGetsCard

/-- THE TIED CARD OF 'regimenlaw57.TraceAgain'. -/
def traceAgainCard : Claim7 := { stood := { row := traceAgainRow, standIns := [], harness := (true, "d3a316c9b339410a247f6bf74f57152348ebc786a896ccda6bd9194373500653"), looks := false }, kinds := [], alts := [], laidByText := true, laidKinds := [.data, .pinned], laidTests := true, laidLooks := .later }
def TraceAgainCardSaid : Prop := Claim7.holds Tryd.pinned (.plain (OpenSpec.ofChange traceAgainSpec)) traceAgainCard

/-- THE SECOND FORM's CARD OF 'regimenlaw44.InputPuts'. -/
def inputPutsUptoCard : Claim7 := { stood := { row := inputPutsUptoRow, standIns := [], harness := (true, "d3a316c9b339410a247f6bf74f57152348ebc786a896ccda6bd9194373500653"), looks := false }, kinds := [], alts := [], laidByText := true, laidKinds := [.data, .pinned], laidTests := true, laidLooks := .later }
def InputPutsUptoCardSaid : Prop := Claim7.holds Tryd.pinned (.plain (OpenSpec.upto inputPutsSpec)) inputPutsUptoCard

/-- THE SECOND FORM's CARD OF 'regimenlaw44.InputGets'. -/
def inputGetsUptoCard : Claim7 := { stood := { row := inputGetsUptoRow, standIns := [], harness := (true, "d3a316c9b339410a247f6bf74f57152348ebc786a896ccda6bd9194373500653"), looks := false }, kinds := [], alts := [], laidByText := true, laidKinds := [.data, .pinned], laidTests := true, laidLooks := .later }
def InputGetsUptoCardSaid : Prop := Claim7.holds Tryd.pinned (.plain (OpenSpec.upto inputGetsSpec)) inputGetsUptoCard

/-- THE SECOND FORM's CARD OF 'regimenlaw57.TraceAgain'. -/
def traceAgainUptoCard : Claim7 := { stood := { row := traceAgainUptoRow, standIns := [], harness := (true, "d3a316c9b339410a247f6bf74f57152348ebc786a896ccda6bd9194373500653"), looks := false }, kinds := [], alts := [], laidByText := true, laidKinds := [.data, .pinned], laidTests := true, laidLooks := .later }
def TraceAgainUptoCardSaid : Prop := Claim7.holds Tryd.pinned (.plain (OpenSpec.upto traceAgainSpec)) traceAgainUptoCard
end Rows
end Go.Proofs.YtcgdhpnobgimfaaDoor
