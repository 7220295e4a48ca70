/-
  DERIVED. GIVEN WITH THE SEED: THE CARDS: each row of YthgmofdfecioaaaGreatDoorRows.lean that lists a variable, with what it lists TIED to the program's text (the seventh form; the later family's looks); each row that meets fmt, with fmt's text TOLD by the authors' own Lean function (tested against real Go, not proved from fmt's source: count such statements apart). THE CARD IS WHAT COUNTS. Prove the row's statement (the work); the ties are given (YthgmofdfecioaaaGreatDoorTie.lean); close each card by the builder's one call (the guide's Derived/Test/ToyasCard.lean, 'card_holds'). Laid BY PROGRAM, IN A SANDBOX (cutbox-door.mjs). By AI agents, Wed Nov 11 2026. No macro, syntax, notation, axiom, sorry.
-/
import Derived.Test.YthgmofdfecioaaaGreatDoorRows
import GoSem.ClaimSeven
namespace Go.Proofs.YthgmofdfecioaaaGreatDoor
namespace Rows

/-- THE TIED CARD OF 'laws.FnTheoremSides'. -/
def fnTheoremSidesCard : Claim7 := { stood := { row := fnTheoremSidesRow, standIns := [], harness := (true, "3420b5d6b20d3d53e342fd87316308be30203e2b05cfcf6edd36a219040b2704"), looks := true }, kinds := [], alts := [], laidByText := true, laidKinds := [.data, .data, .data, .data, .sentinel, .sentinel, .pinned], laidTests := true, laidLooks := .later }
def FnTheoremSidesCardSaid : Prop := Claim7.holds Tryz.pinned (.plain (OpenSpec.ofChange fnTheoremSidesSpec)) fnTheoremSidesCard

/-- THE TIED CARD OF 'laws.FnTheoremProof'. -/
def fnTheoremProofCard : Claim7 := { stood := { row := fnTheoremProofRow, standIns := [], harness := (true, "3420b5d6b20d3d53e342fd87316308be30203e2b05cfcf6edd36a219040b2704"), looks := true }, kinds := [], alts := [], laidByText := true, laidKinds := [.data, .data, .data, .data, .sentinel, .sentinel, .pinned], laidTests := true, laidLooks := .later }
def FnTheoremProofCardSaid : Prop := Claim7.holds Tryz.pinned (.plain (OpenSpec.ofChange fnTheoremProofSpec)) fnTheoremProofCard

/-- THE TIED CARD OF 'laws.FnUseTheorem'. -/
def fnUseTheoremCard : Claim7 := { stood := { row := fnUseTheoremRow, standIns := [], harness := (true, "3420b5d6b20d3d53e342fd87316308be30203e2b05cfcf6edd36a219040b2704"), looks := true }, kinds := [], alts := [], laidByText := true, laidKinds := [.data, .data, .data, .data, .sentinel, .sentinel, .pinned], laidTests := true, laidLooks := .later }
def FnUseTheoremCardSaid : Prop := Claim7.holds Tryz.pinned (.plain (OpenSpec.ofChange fnUseTheoremSpec)) fnUseTheoremCard

/-- THE SECOND FORM's CARD OF 'laws.FnTheoremSides'. -/
def fnTheoremSidesUptoCard : Claim7 := { stood := { row := fnTheoremSidesUptoRow, standIns := [], harness := (true, "3420b5d6b20d3d53e342fd87316308be30203e2b05cfcf6edd36a219040b2704"), looks := true }, kinds := [], alts := [], laidByText := true, laidKinds := [.data, .data, .data, .data, .sentinel, .sentinel, .pinned], laidTests := true, laidLooks := .later }
def FnTheoremSidesUptoCardSaid : Prop := Claim7.holds Tryz.pinned (.plain (OpenSpec.upto fnTheoremSidesSpec)) fnTheoremSidesUptoCard

/-- THE SECOND FORM's CARD OF 'laws.FnTheoremProof'. -/
def fnTheoremProofUptoCard : Claim7 := { stood := { row := fnTheoremProofUptoRow, standIns := [], harness := (true, "3420b5d6b20d3d53e342fd87316308be30203e2b05cfcf6edd36a219040b2704"), looks := true }, kinds := [], alts := [], laidByText := true, laidKinds := [.data, .data, .data, .data, .sentinel, .sentinel, .pinned], laidTests := true, laidLooks := .later }
def FnTheoremProofUptoCardSaid : Prop := Claim7.holds Tryz.pinned (.plain (OpenSpec.upto fnTheoremProofSpec)) fnTheoremProofUptoCard

/-- THE SECOND FORM's CARD OF 'laws.FnUseTheorem'. -/
def fnUseTheoremUptoCard : Claim7 := { stood := { row := fnUseTheoremUptoRow, standIns := [], harness := (true, "3420b5d6b20d3d53e342fd87316308be30203e2b05cfcf6edd36a219040b2704"), looks := true }, kinds := [], alts := [], laidByText := true, laidKinds := [.data, .data, .data, .data, .sentinel, .sentinel, .pinned], laidTests := true, laidLooks := .later }
def FnUseTheoremUptoCardSaid : Prop := Claim7.holds Tryz.pinned (.plain (OpenSpec.upto fnUseTheoremSpec)) fnUseTheoremUptoCard
end Rows
end Go.Proofs.YthgmofdfecioaaaGreatDoor
