/-
  DERIVED. GIVEN WITH THE SEED: THE CARDS: each row of YtjpgdfndlmipcaaDoorRows.lean that lists a variable, with what it lists TIED to the program's text (the seventh form; the later family's looks); each row that meets fmt, with fmt's text TOLD by the authors' own Lean function (tested against real Go, not proved from fmt's source: count such statements apart). THE CARD IS WHAT COUNTS. Prove the row's statement (the work); the ties are given (YtjpgdfndlmipcaaDoorTie.lean); close each card by the builder's one call (the guide's Derived/Test/ToyasCard.lean, 'card_holds'). Laid BY PROGRAM, IN A SANDBOX (cutbox-door.mjs). By AI agents, Wed Nov 11 2026. No macro, syntax, notation, axiom, sorry.
-/
import Derived.Test.YtjpgdfndlmipcaaDoorRows
import GoSem.ClaimSeven
namespace Go.Proofs.YtjpgdfndlmipcaaDoor
namespace Rows

/-- THE TIED CARD OF 'laws.FnCodeSame'. -/
def fnCodeSameCard : Claim7 := { stood := { row := fnCodeSameRow, standIns := [], harness := (true, "c2894c452d6279d8451159b2aa8a8c53a35692af90bb50ad5794bc3e72bfd527"), looks := false }, kinds := [], alts := [], laidByText := true, laidKinds := [.data, .data, .data, .data, .pinned], laidTests := true, laidLooks := .later }
def FnCodeSameCardSaid : Prop := Claim7.holds Tryd.pinned (.plain (OpenSpec.ofChange fnCodeSameSpec)) fnCodeSameCard

/-- THE TIED CARD OF 'laws.FnFormatCode'. -/
def fnFormatCodeCard : Claim7 := { stood := { row := fnFormatCodeRow, standIns := [], harness := (true, "c2894c452d6279d8451159b2aa8a8c53a35692af90bb50ad5794bc3e72bfd527"), looks := false }, kinds := [], alts := [], laidByText := true, laidKinds := [.data, .data, .data, .data, .pinned], laidTests := true, laidLooks := .later }
def FnFormatCodeCardSaid : Prop := Claim7.holds Tryd.pinned (.plain (OpenSpec.ofChange fnFormatCodeSpec)) fnFormatCodeCard

/-- THE SECOND FORM's CARD OF 'laws.FnCodeSame'. -/
def fnCodeSameUptoCard : Claim7 := { stood := { row := fnCodeSameUptoRow, standIns := [], harness := (true, "c2894c452d6279d8451159b2aa8a8c53a35692af90bb50ad5794bc3e72bfd527"), looks := false }, kinds := [], alts := [], laidByText := true, laidKinds := [.data, .data, .data, .data, .pinned], laidTests := true, laidLooks := .later }
def FnCodeSameUptoCardSaid : Prop := Claim7.holds Tryd.pinned (.plain (OpenSpec.upto fnCodeSameSpec)) fnCodeSameUptoCard

/-- THE SECOND FORM's CARD OF 'laws.FnFormatCode'. -/
def fnFormatCodeUptoCard : Claim7 := { stood := { row := fnFormatCodeUptoRow, standIns := [], harness := (true, "c2894c452d6279d8451159b2aa8a8c53a35692af90bb50ad5794bc3e72bfd527"), looks := false }, kinds := [], alts := [], laidByText := true, laidKinds := [.data, .data, .data, .data, .pinned], laidTests := true, laidLooks := .later }
def FnFormatCodeUptoCardSaid : Prop := Claim7.holds Tryd.pinned (.plain (OpenSpec.upto fnFormatCodeSpec)) fnFormatCodeUptoCard
end Rows
end Go.Proofs.YtjpgdfndlmipcaaDoor
