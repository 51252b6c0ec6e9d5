/-
  DERIVED. GIVEN WITH THE SEED: THE CARDS: each row of YtlekhcopddajbaaGreatDoorRows.lean that lists a variable, with what it lists TIED to the program's text (the seventh form; the later family's looks); each row that meets fmt, with fmt's text TOLD by the authors' own Lean function (tested against real Go, not proved from fmt's source: count such statements apart). THE CARD IS WHAT COUNTS. Prove the row's statement (the work); the ties are given (YtlekhcopddajbaaGreatDoorTie.lean); close each card by the builder's one call (the guide's Derived/Test/ToyasCard.lean, 'card_holds'). Laid BY PROGRAM, IN A SANDBOX (cutbox-door.mjs). By AI agents, Wed Nov 11 2026. No macro, syntax, notation, axiom, sorry.
-/
import Derived.Test.YtlekhcopddajbaaGreatDoorRows
import GoSem.ClaimSeven
namespace Go.Proofs.YtlekhcopddajbaaGreatDoor
namespace Rows

/-- THE TIED CARD OF 'laws.FnExactSegments'. -/
def fnExactSegmentsCard : Claim7 := { stood := { row := fnExactSegmentsRow, standIns := [], harness := (true, "15c6f5110f9e7f190fd9bc822ee44cd934762d7aa1b920cc760fe9e708f063ee"), looks := true }, kinds := [], alts := [], laidByText := true, laidKinds := [.data, .data, .data, .sentinel, .sentinel], laidTests := true, laidLooks := .later }
def FnExactSegmentsCardSaid : Prop := Claim7.holds Tryz.pinned (.plain (OpenSpec.ofChange fnExactSegmentsSpec)) fnExactSegmentsCard

/-- THE SECOND FORM's CARD OF 'laws.FnExactSegments'. -/
def fnExactSegmentsUptoCard : Claim7 := { stood := { row := fnExactSegmentsUptoRow, standIns := [], harness := (true, "15c6f5110f9e7f190fd9bc822ee44cd934762d7aa1b920cc760fe9e708f063ee"), looks := true }, kinds := [], alts := [], laidByText := true, laidKinds := [.data, .data, .data, .sentinel, .sentinel], laidTests := true, laidLooks := .later }
def FnExactSegmentsUptoCardSaid : Prop := Claim7.holds Tryz.pinned (.plain (OpenSpec.upto fnExactSegmentsSpec)) fnExactSegmentsUptoCard
end Rows
end Go.Proofs.YtlekhcopddajbaaGreatDoor
