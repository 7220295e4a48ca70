/-
  DERIVED. GIVEN WITH THE SEED: THE CARDS: each row of YtjpgdfndlmipcaaGreatDoorRows.lean that lists a variable, with what it lists TIED to the program's text (the seventh form; the later family's looks); each row that meets fmt, with fmt's text TOLD by the authors' own Lean function (tested against real Go, not proved from fmt's source: count such statements apart). THE CARD IS WHAT COUNTS. Prove the row's statement (the work); the ties are given (YtjpgdfndlmipcaaGreatDoorTie.lean); close each card by the builder's one call (the guide's Derived/Test/ToyasCard.lean, 'card_holds'). Laid BY PROGRAM, IN A SANDBOX (cutbox-door.mjs). By AI agents, Wed Nov 11 2026. No macro, syntax, notation, axiom, sorry.
-/
import Derived.Test.YtjpgdfndlmipcaaGreatDoorRows
import GoSem.ClaimSeven
namespace Go.Proofs.YtjpgdfndlmipcaaGreatDoor
namespace Rows

/-- THE TIED CARD OF 'laws.FnExactTheoremProof'. -/
def fnExactTheoremProofCard : Claim7 := { stood := { row := fnExactTheoremProofRow, standIns := [], harness := (true, "1b66b1b17acdb04e30ae05bc6b5f7cd9e7d1f4dbb21cf63abea38b475b49ee92"), looks := true }, kinds := [], alts := [], laidByText := true, laidKinds := [.data, .data, .data, .data, .sentinel, .sentinel, .pinned], laidTests := true, laidLooks := .later }
def FnExactTheoremProofCardSaid : Prop := Claim7.holds Tryz.pinned (.plain (OpenSpec.ofChange fnExactTheoremProofSpec)) fnExactTheoremProofCard

/-- THE TIED CARD OF 'laws.FnExactTheoremType'. -/
def fnExactTheoremTypeCard : Claim7 := { stood := { row := fnExactTheoremTypeRow, standIns := [], harness := (true, "1b66b1b17acdb04e30ae05bc6b5f7cd9e7d1f4dbb21cf63abea38b475b49ee92"), looks := true }, kinds := [], alts := [], laidByText := true, laidKinds := [.data, .data, .data, .data, .sentinel, .sentinel, .pinned], laidTests := true, laidLooks := .later }
def FnExactTheoremTypeCardSaid : Prop := Claim7.holds Tryz.pinned (.plain (OpenSpec.ofChange fnExactTheoremTypeSpec)) fnExactTheoremTypeCard

/-- THE TIED CARD OF 'laws.FnExactUseTheorem'. -/
def fnExactUseTheoremCard : Claim7 := { stood := { row := fnExactUseTheoremRow, standIns := [], harness := (true, "1b66b1b17acdb04e30ae05bc6b5f7cd9e7d1f4dbb21cf63abea38b475b49ee92"), looks := true }, kinds := [], alts := [], laidByText := true, laidKinds := [.data, .data, .data, .data, .sentinel, .sentinel, .pinned], laidTests := true, laidLooks := .later }
def FnExactUseTheoremCardSaid : Prop := Claim7.holds Tryz.pinned (.plain (OpenSpec.ofChange fnExactUseTheoremSpec)) fnExactUseTheoremCard

/-- THE SECOND FORM's CARD OF 'laws.FnExactTheoremProof'. -/
def fnExactTheoremProofUptoCard : Claim7 := { stood := { row := fnExactTheoremProofUptoRow, standIns := [], harness := (true, "1b66b1b17acdb04e30ae05bc6b5f7cd9e7d1f4dbb21cf63abea38b475b49ee92"), looks := true }, kinds := [], alts := [], laidByText := true, laidKinds := [.data, .data, .data, .data, .sentinel, .sentinel, .pinned], laidTests := true, laidLooks := .later }
def FnExactTheoremProofUptoCardSaid : Prop := Claim7.holds Tryz.pinned (.plain (OpenSpec.upto fnExactTheoremProofSpec)) fnExactTheoremProofUptoCard

/-- THE SECOND FORM's CARD OF 'laws.FnExactTheoremType'. -/
def fnExactTheoremTypeUptoCard : Claim7 := { stood := { row := fnExactTheoremTypeUptoRow, standIns := [], harness := (true, "1b66b1b17acdb04e30ae05bc6b5f7cd9e7d1f4dbb21cf63abea38b475b49ee92"), looks := true }, kinds := [], alts := [], laidByText := true, laidKinds := [.data, .data, .data, .data, .sentinel, .sentinel, .pinned], laidTests := true, laidLooks := .later }
def FnExactTheoremTypeUptoCardSaid : Prop := Claim7.holds Tryz.pinned (.plain (OpenSpec.upto fnExactTheoremTypeSpec)) fnExactTheoremTypeUptoCard

/-- THE SECOND FORM's CARD OF 'laws.FnExactUseTheorem'. -/
def fnExactUseTheoremUptoCard : Claim7 := { stood := { row := fnExactUseTheoremUptoRow, standIns := [], harness := (true, "1b66b1b17acdb04e30ae05bc6b5f7cd9e7d1f4dbb21cf63abea38b475b49ee92"), looks := true }, kinds := [], alts := [], laidByText := true, laidKinds := [.data, .data, .data, .data, .sentinel, .sentinel, .pinned], laidTests := true, laidLooks := .later }
def FnExactUseTheoremUptoCardSaid : Prop := Claim7.holds Tryz.pinned (.plain (OpenSpec.upto fnExactUseTheoremSpec)) fnExactUseTheoremUptoCard
end Rows
end Go.Proofs.YtjpgdfndlmipcaaGreatDoor
