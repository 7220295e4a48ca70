/-
  DERIVED. GIVEN WITH THE SEED: THE CARDS: each row of YtodkpgkefjegnaaGreatDoorRows.lean that lists a variable, with what it lists TIED to the program's text (the seventh form; the later family's looks); each row that meets fmt, with fmt's text TOLD by the authors' own Lean function (tested against real Go, not proved from fmt's source: count such statements apart). THE CARD IS WHAT COUNTS. Prove the row's statement (the work); the ties are given (YtodkpgkefjegnaaGreatDoorTie.lean); close each card by the builder's one call (the guide's Derived/Test/ToyasCard.lean, 'card_holds'). Laid BY PROGRAM, IN A SANDBOX (cutbox-door.mjs). By AI agents, Wed Nov 11 2026. No macro, syntax, notation, axiom, sorry.
-/
import Derived.Test.YtodkpgkefjegnaaGreatDoorRows
import GoSem.ClaimSeven
namespace Go.Proofs.YtodkpgkefjegnaaGreatDoor
namespace Rows

/-- THE TIED CARD OF 'laws.FnScriptNorm'. -/
def fnScriptNormCard : Claim7 := { stood := { row := fnScriptNormRow, standIns := [], harness := (true, "8de9c69730ec073c4bba6678ef47a12e96562f861c28f4ff0a048b7564ca3ce2"), looks := true }, kinds := [], alts := [], laidByText := true, laidKinds := [.data, .data, .data, .data, .sentinel, .sentinel, .pinned], laidTests := true, laidLooks := .later }
def FnScriptNormCardSaid : Prop := Claim7.holds Tryz.pinned (.plain (OpenSpec.ofChange fnScriptNormSpec)) fnScriptNormCard

/-- THE SECOND FORM's CARD OF 'laws.FnScriptNorm'. -/
def fnScriptNormUptoCard : Claim7 := { stood := { row := fnScriptNormUptoRow, standIns := [], harness := (true, "8de9c69730ec073c4bba6678ef47a12e96562f861c28f4ff0a048b7564ca3ce2"), looks := true }, kinds := [], alts := [], laidByText := true, laidKinds := [.data, .data, .data, .data, .sentinel, .sentinel, .pinned], laidTests := true, laidLooks := .later }
def FnScriptNormUptoCardSaid : Prop := Claim7.holds Tryz.pinned (.plain (OpenSpec.upto fnScriptNormSpec)) fnScriptNormUptoCard
end Rows
end Go.Proofs.YtodkpgkefjegnaaGreatDoor
