/-
  NARROWER THAN 'FOR EVERY INPUT', by the rows' own cells (each row's printed sentence says how): FnExactTypeForm: loops · FnExactBlockingVar: loops · FnExactFormOf: loops · FnExactNeutral: loops · FnExactFillTerm: loops · FnExactNoteAt: loops · FnExactMoreGeneral: loops · FnExactMatchTerm: loops · FnExactCommonPattern: loops · FnExactRewriteTerm: loops.
  DERIVED. THE GIVEN ROWS OF THIS SEAT. 11 by the template 'for every input the law returns true; each argument reads behind the call as it read before'; 0 by the template 'total and deterministic' (their statements: YtefifcmieicnlaaTotals.lean).
  GIVEN WITH THE SEED: the statements are not yours to turn. If you find one false, say at which input.
  Laid BY PROGRAM, IN A SANDBOX (cutbox-rows.mjs): the forced cells as the released guide's own fill.sh prints them over the translation 19147f4699a1a6a7… (all of the seat's roots in one cut). By AI agents, Wed Nov 11 2026. No macro, syntax, notation, axiom, sorry.
-/
import Derived.Test.YtefifcmieicnlaaChecked
import GoSem.Claim
import GoSem.ClaimJoined
import GoSem.ClaimMapViews
import Derived.JoinedTies
import Derived.KernelRfl
namespace Go.Proofs.Ytefifcmieicnlaa
/- THE CELL 'sum', in the pinned program and in every row, IS THE sha256 OF THE DUMP (.gsa) THAT YtefifcmieicnlaaProg.lean LOADS. Nothing in Lean hashes anything: it is a label: what it is worth is what the hold of that sum in a sandbox is worth. -/
noncomputable def Try.pinned : Pinned := { name := "ytefifcmieicnlaa", sum := "19147f4699a1a6a7db7014a0282ca775eddb234fde36592c1959a5653ac102d8", checked := Try.checked }
namespace Rows
def none {H : Type} : Left H := { results := [], args := [] }

/-- 'laws.FnExactTypeForm': WHATEVER THE INPUT: true; the input reads as it did. -/
def fnExactTypeFormSpec : ChangeSpec := { name := "fnExactTypeForm", fn := fun _ => fun
  | [d] => { results := [.lit (.bool true)], args := [d] }
  | _ => none }
def fnExactTypeFormRow : OpenClaim := { program := "ytefifcmieicnlaa", sum := "19147f4699a1a6a7db7014a0282ca775eddb234fde36592c1959a5653ac102d8", func := "loop.example/depkernel/laws.FnExactTypeForm", spec := "fnExactTypeForm", recurses := true, loops := true, apart := false }
def FnExactTypeFormSaid : Prop := fnExactTypeFormRow.holds Try.pinned (OpenSpec.ofChange fnExactTypeFormSpec)

/-- ITS FALSE NEIGHBOUR: 'it returns false'. Refute it at one input. -/
def fnExactTypeFormWrong : ChangeSpec := { name := "fnExactTypeForm", fn := fun _ => fun
  | [d] => { results := [.lit (.bool false)], args := [d] }
  | _ => none }
def FnExactTypeFormWrongFalsely : Prop := fnExactTypeFormRow.holds Try.pinned (OpenSpec.ofChange fnExactTypeFormWrong)

/-- 'laws.FnExactBlockingVar': WHATEVER THE INPUT: true; the input reads as it did. -/
def fnExactBlockingVarSpec : ChangeSpec := { name := "fnExactBlockingVar", fn := fun _ => fun
  | [d] => { results := [.lit (.bool true)], args := [d] }
  | _ => none }
def fnExactBlockingVarRow : OpenClaim := { program := "ytefifcmieicnlaa", sum := "19147f4699a1a6a7db7014a0282ca775eddb234fde36592c1959a5653ac102d8", func := "loop.example/depkernel/laws.FnExactBlockingVar", spec := "fnExactBlockingVar", recurses := true, loops := true, apart := false }
def FnExactBlockingVarSaid : Prop := fnExactBlockingVarRow.holds Try.pinned (OpenSpec.ofChange fnExactBlockingVarSpec)

/-- ITS FALSE NEIGHBOUR: 'it returns false'. Refute it at one input. -/
def fnExactBlockingVarWrong : ChangeSpec := { name := "fnExactBlockingVar", fn := fun _ => fun
  | [d] => { results := [.lit (.bool false)], args := [d] }
  | _ => none }
def FnExactBlockingVarWrongFalsely : Prop := fnExactBlockingVarRow.holds Try.pinned (OpenSpec.ofChange fnExactBlockingVarWrong)

/-- 'laws.FnExactFormOf': WHATEVER THE INPUT: true; the input reads as it did. -/
def fnExactFormOfSpec : ChangeSpec := { name := "fnExactFormOf", fn := fun _ => fun
  | [d] => { results := [.lit (.bool true)], args := [d] }
  | _ => none }
def fnExactFormOfRow : OpenClaim := { program := "ytefifcmieicnlaa", sum := "19147f4699a1a6a7db7014a0282ca775eddb234fde36592c1959a5653ac102d8", func := "loop.example/depkernel/laws.FnExactFormOf", spec := "fnExactFormOf", recurses := true, loops := true, apart := false }
def FnExactFormOfSaid : Prop := fnExactFormOfRow.holds Try.pinned (OpenSpec.ofChange fnExactFormOfSpec)

/-- ITS FALSE NEIGHBOUR: 'it returns false'. Refute it at one input. -/
def fnExactFormOfWrong : ChangeSpec := { name := "fnExactFormOf", fn := fun _ => fun
  | [d] => { results := [.lit (.bool false)], args := [d] }
  | _ => none }
def FnExactFormOfWrongFalsely : Prop := fnExactFormOfRow.holds Try.pinned (OpenSpec.ofChange fnExactFormOfWrong)

/-- 'laws.FnExactNeutral': WHATEVER THE INPUT: true; the input reads as it did. -/
def fnExactNeutralSpec : ChangeSpec := { name := "fnExactNeutral", fn := fun _ => fun
  | [d] => { results := [.lit (.bool true)], args := [d] }
  | _ => none }
def fnExactNeutralRow : OpenClaim := { program := "ytefifcmieicnlaa", sum := "19147f4699a1a6a7db7014a0282ca775eddb234fde36592c1959a5653ac102d8", func := "loop.example/depkernel/laws.FnExactNeutral", spec := "fnExactNeutral", recurses := true, loops := true, apart := false }
def FnExactNeutralSaid : Prop := fnExactNeutralRow.holds Try.pinned (OpenSpec.ofChange fnExactNeutralSpec)

/-- ITS FALSE NEIGHBOUR: 'it returns false'. Refute it at one input. -/
def fnExactNeutralWrong : ChangeSpec := { name := "fnExactNeutral", fn := fun _ => fun
  | [d] => { results := [.lit (.bool false)], args := [d] }
  | _ => none }
def FnExactNeutralWrongFalsely : Prop := fnExactNeutralRow.holds Try.pinned (OpenSpec.ofChange fnExactNeutralWrong)

/-- 'laws.FnExactFillTerm': WHATEVER THE INPUT: true; the input reads as it did. -/
def fnExactFillTermSpec : ChangeSpec := { name := "fnExactFillTerm", fn := fun _ => fun
  | [d1, d2] => { results := [.lit (.bool true)], args := [d1, d2] }
  | _ => none }
def fnExactFillTermRow : OpenClaim := { program := "ytefifcmieicnlaa", sum := "19147f4699a1a6a7db7014a0282ca775eddb234fde36592c1959a5653ac102d8", func := "loop.example/depkernel/laws.FnExactFillTerm", spec := "fnExactFillTerm", unfollowed := true, recurses := true, loops := true, apart := false }
def FnExactFillTermSaid : Prop := fnExactFillTermRow.holds Try.pinned (OpenSpec.ofChange fnExactFillTermSpec)

/-- ITS FALSE NEIGHBOUR: 'it returns false'. Refute it at one input. -/
def fnExactFillTermWrong : ChangeSpec := { name := "fnExactFillTerm", fn := fun _ => fun
  | [d1, d2] => { results := [.lit (.bool false)], args := [d1, d2] }
  | _ => none }
def FnExactFillTermWrongFalsely : Prop := fnExactFillTermRow.holds Try.pinned (OpenSpec.ofChange fnExactFillTermWrong)

/-- 'laws.FnExactNoteAt': WHATEVER THE INPUT: true; the input reads as it did. -/
def fnExactNoteAtSpec : ChangeSpec := { name := "fnExactNoteAt", fn := fun _ => fun
  | [d1, d2, d3] => { results := [.lit (.bool true)], args := [d1, d2, d3] }
  | _ => none }
def fnExactNoteAtRow : OpenClaim := { program := "ytefifcmieicnlaa", sum := "19147f4699a1a6a7db7014a0282ca775eddb234fde36592c1959a5653ac102d8", func := "loop.example/depkernel/laws.FnExactNoteAt", spec := "fnExactNoteAt", unfollowed := true, recurses := true, loops := true, apart := false }
def FnExactNoteAtSaid : Prop := fnExactNoteAtRow.holds Try.pinned (OpenSpec.ofChange fnExactNoteAtSpec)

/-- ITS FALSE NEIGHBOUR: 'it returns false'. Refute it at one input. -/
def fnExactNoteAtWrong : ChangeSpec := { name := "fnExactNoteAt", fn := fun _ => fun
  | [d1, d2, d3] => { results := [.lit (.bool false)], args := [d1, d2, d3] }
  | _ => none }
def FnExactNoteAtWrongFalsely : Prop := fnExactNoteAtRow.holds Try.pinned (OpenSpec.ofChange fnExactNoteAtWrong)

/-- 'laws.FnExactMoreGeneral': WHATEVER THE INPUT: true; the input reads as it did. -/
def fnExactMoreGeneralSpec : ChangeSpec := { name := "fnExactMoreGeneral", fn := fun _ => fun
  | [d1, d2, d3, d4] => { results := [.lit (.bool true)], args := [d1, d2, d3, d4] }
  | _ => none }
def fnExactMoreGeneralRow : OpenClaim := { program := "ytefifcmieicnlaa", sum := "19147f4699a1a6a7db7014a0282ca775eddb234fde36592c1959a5653ac102d8", func := "loop.example/depkernel/laws.FnExactMoreGeneral", spec := "fnExactMoreGeneral", unfollowed := true, recurses := true, loops := true, apart := false }
def FnExactMoreGeneralSaid : Prop := fnExactMoreGeneralRow.holds Try.pinned (OpenSpec.ofChange fnExactMoreGeneralSpec)

/-- ITS FALSE NEIGHBOUR: 'it returns false'. Refute it at one input. -/
def fnExactMoreGeneralWrong : ChangeSpec := { name := "fnExactMoreGeneral", fn := fun _ => fun
  | [d1, d2, d3, d4] => { results := [.lit (.bool false)], args := [d1, d2, d3, d4] }
  | _ => none }
def FnExactMoreGeneralWrongFalsely : Prop := fnExactMoreGeneralRow.holds Try.pinned (OpenSpec.ofChange fnExactMoreGeneralWrong)

/-- 'laws.FnExactMatchTerm': WHATEVER THE INPUT: true; the input reads as it did. -/
def fnExactMatchTermSpec : ChangeSpec := { name := "fnExactMatchTerm", fn := fun _ => fun
  | [d1, d2, d3] => { results := [.lit (.bool true)], args := [d1, d2, d3] }
  | _ => none }
def fnExactMatchTermRow : OpenClaim := { program := "ytefifcmieicnlaa", sum := "19147f4699a1a6a7db7014a0282ca775eddb234fde36592c1959a5653ac102d8", func := "loop.example/depkernel/laws.FnExactMatchTerm", spec := "fnExactMatchTerm", unfollowed := true, recurses := true, loops := true, apart := false }
def FnExactMatchTermSaid : Prop := fnExactMatchTermRow.holds Try.pinned (OpenSpec.ofChange fnExactMatchTermSpec)

/-- ITS FALSE NEIGHBOUR: 'it returns false'. Refute it at one input. -/
def fnExactMatchTermWrong : ChangeSpec := { name := "fnExactMatchTerm", fn := fun _ => fun
  | [d1, d2, d3] => { results := [.lit (.bool false)], args := [d1, d2, d3] }
  | _ => none }
def FnExactMatchTermWrongFalsely : Prop := fnExactMatchTermRow.holds Try.pinned (OpenSpec.ofChange fnExactMatchTermWrong)

/-- 'laws.FnExactCommonPattern': WHATEVER THE INPUT: true; the input reads as it did. -/
def fnExactCommonPatternSpec : ChangeSpec := { name := "fnExactCommonPattern", fn := fun _ => fun
  | [d1, d2] => { results := [.lit (.bool true)], args := [d1, d2] }
  | _ => none }
def fnExactCommonPatternRow : OpenClaim := { program := "ytefifcmieicnlaa", sum := "19147f4699a1a6a7db7014a0282ca775eddb234fde36592c1959a5653ac102d8", func := "loop.example/depkernel/laws.FnExactCommonPattern", spec := "fnExactCommonPattern", unfollowed := true, recurses := true, loops := true, apart := false }
def FnExactCommonPatternSaid : Prop := fnExactCommonPatternRow.holds Try.pinned (OpenSpec.ofChange fnExactCommonPatternSpec)

/-- ITS FALSE NEIGHBOUR: 'it returns false'. Refute it at one input. -/
def fnExactCommonPatternWrong : ChangeSpec := { name := "fnExactCommonPattern", fn := fun _ => fun
  | [d1, d2] => { results := [.lit (.bool false)], args := [d1, d2] }
  | _ => none }
def FnExactCommonPatternWrongFalsely : Prop := fnExactCommonPatternRow.holds Try.pinned (OpenSpec.ofChange fnExactCommonPatternWrong)

/-- 'laws.FnExactRewriteTerm': WHATEVER THE INPUT: true; the input reads as it did. -/
def fnExactRewriteTermSpec : ChangeSpec := { name := "fnExactRewriteTerm", fn := fun _ => fun
  | [d1, d2, d3, d4] => { results := [.lit (.bool true)], args := [d1, d2, d3, d4] }
  | _ => none }
def fnExactRewriteTermRow : OpenClaim := { program := "ytefifcmieicnlaa", sum := "19147f4699a1a6a7db7014a0282ca775eddb234fde36592c1959a5653ac102d8", func := "loop.example/depkernel/laws.FnExactRewriteTerm", spec := "fnExactRewriteTerm", unfollowed := true, recurses := true, loops := true, apart := false }
def FnExactRewriteTermSaid : Prop := fnExactRewriteTermRow.holds Try.pinned (OpenSpec.ofChange fnExactRewriteTermSpec)

/-- ITS FALSE NEIGHBOUR: 'it returns false'. Refute it at one input. -/
def fnExactRewriteTermWrong : ChangeSpec := { name := "fnExactRewriteTerm", fn := fun _ => fun
  | [d1, d2, d3, d4] => { results := [.lit (.bool false)], args := [d1, d2, d3, d4] }
  | _ => none }
def FnExactRewriteTermWrongFalsely : Prop := fnExactRewriteTermRow.holds Try.pinned (OpenSpec.ofChange fnExactRewriteTermWrong)

/-- 'laws.FnFillOne': WHATEVER THE INPUT: true; the input reads as it did. -/
def fnFillOneSpec : ChangeSpec := { name := "fnFillOne", fn := fun _ => fun
  | [d] => { results := [.lit (.bool true)], args := [d] }
  | _ => none }
def fnFillOneRow : OpenClaim := { program := "ytefifcmieicnlaa", sum := "19147f4699a1a6a7db7014a0282ca775eddb234fde36592c1959a5653ac102d8", func := "loop.example/depkernel/laws.FnFillOne", spec := "fnFillOne", unfollowed := true, recurses := true, apart := false }
def FnFillOneSaid : Prop := fnFillOneRow.holds Try.pinned (OpenSpec.ofChange fnFillOneSpec)

/-- ITS FALSE NEIGHBOUR: 'it returns false'. Refute it at one input. -/
def fnFillOneWrong : ChangeSpec := { name := "fnFillOne", fn := fun _ => fun
  | [d] => { results := [.lit (.bool false)], args := [d] }
  | _ => none }
def FnFillOneWrongFalsely : Prop := fnFillOneRow.holds Try.pinned (OpenSpec.ofChange fnFillOneWrong)

/- THE SECOND FORM. 'bulk': how many values and letters a reading holds, each counted each time it is reached (what is shared counts as often as it is met; a slice's spare places count too). A statement '..UptoSaid' is the law's where the arguments, and the package variables that the reading takes, are together of bulk at most 1048576: NARROWER than '..Said'. Prove '..Said' where nothing that the law and all that it calls make is longer than what came in: it says more and counts as full. Else prove '..UptoSaid'. A law counts once. -/
mutual
def uptoBulk {H : Type} : DataW H → Nat
  | .lit (.string bytes) => bytes.length + 1
  | .lit _ => 1
  | .nil => 1
  | .ptr d => uptoBulk d + 1
  | .slice elems spare => uptoBulkAll elems + uptoBulkAll spare + 1
  | .agg parts => uptoBulkAll parts + 1
  | .iface _ d => uptoBulk d + 1
  | .map entries => uptoBulkEntries entries + 1
  | .held _ => 1
def uptoBulkAll {H : Type} : List (DataW H) → Nat
  | [] => 0
  | d :: r => uptoBulk d + uptoBulkAll r
def uptoBulkEntries {H : Type} : List (Lit × DataW H) → Nat
  | [] => 0
  | x :: r => uptoBulkEntry x + uptoBulkEntries r
def uptoBulkEntry {H : Type} : Lit × DataW H → Nat
  | (.string bytes, d) => bytes.length + uptoBulk d + 1
  | (_, d) => uptoBulk d + 1
 end
def uptoSmall : (H : Type) → List (DataW H) → Bool := fun _ ds => decide (uptoBulkAll ds ≤ 1048576)
def OpenSpec.upto (s : _root_.Go.ChangeSpec) : _root_.Go.OpenSpec := { _root_.Go.OpenSpec.ofChange s with cond := some uptoSmall }

/-- 'laws.FnExactTypeForm', WHERE WHAT IT READS IS OF BULK AT MOST 1048576: true; the input reads as it did. -/
def fnExactTypeFormUptoRow : OpenClaim := { program := "ytefifcmieicnlaa", sum := "19147f4699a1a6a7db7014a0282ca775eddb234fde36592c1959a5653ac102d8", func := "loop.example/depkernel/laws.FnExactTypeForm", spec := "fnExactTypeForm", recurses := true, loops := true, apart := false, narrowed := true }
def FnExactTypeFormUptoSaid : Prop := fnExactTypeFormUptoRow.holds Try.pinned (OpenSpec.upto fnExactTypeFormSpec)

/-- 'laws.FnExactBlockingVar', WHERE WHAT IT READS IS OF BULK AT MOST 1048576: true; the input reads as it did. -/
def fnExactBlockingVarUptoRow : OpenClaim := { program := "ytefifcmieicnlaa", sum := "19147f4699a1a6a7db7014a0282ca775eddb234fde36592c1959a5653ac102d8", func := "loop.example/depkernel/laws.FnExactBlockingVar", spec := "fnExactBlockingVar", recurses := true, loops := true, apart := false, narrowed := true }
def FnExactBlockingVarUptoSaid : Prop := fnExactBlockingVarUptoRow.holds Try.pinned (OpenSpec.upto fnExactBlockingVarSpec)

/-- 'laws.FnExactFormOf', WHERE WHAT IT READS IS OF BULK AT MOST 1048576: true; the input reads as it did. -/
def fnExactFormOfUptoRow : OpenClaim := { program := "ytefifcmieicnlaa", sum := "19147f4699a1a6a7db7014a0282ca775eddb234fde36592c1959a5653ac102d8", func := "loop.example/depkernel/laws.FnExactFormOf", spec := "fnExactFormOf", recurses := true, loops := true, apart := false, narrowed := true }
def FnExactFormOfUptoSaid : Prop := fnExactFormOfUptoRow.holds Try.pinned (OpenSpec.upto fnExactFormOfSpec)

/-- 'laws.FnExactNeutral', WHERE WHAT IT READS IS OF BULK AT MOST 1048576: true; the input reads as it did. -/
def fnExactNeutralUptoRow : OpenClaim := { program := "ytefifcmieicnlaa", sum := "19147f4699a1a6a7db7014a0282ca775eddb234fde36592c1959a5653ac102d8", func := "loop.example/depkernel/laws.FnExactNeutral", spec := "fnExactNeutral", recurses := true, loops := true, apart := false, narrowed := true }
def FnExactNeutralUptoSaid : Prop := fnExactNeutralUptoRow.holds Try.pinned (OpenSpec.upto fnExactNeutralSpec)

/-- 'laws.FnExactFillTerm', WHERE WHAT IT READS IS OF BULK AT MOST 1048576: true; the input reads as it did. -/
def fnExactFillTermUptoRow : OpenClaim := { program := "ytefifcmieicnlaa", sum := "19147f4699a1a6a7db7014a0282ca775eddb234fde36592c1959a5653ac102d8", func := "loop.example/depkernel/laws.FnExactFillTerm", spec := "fnExactFillTerm", unfollowed := true, recurses := true, loops := true, apart := false, narrowed := true }
def FnExactFillTermUptoSaid : Prop := fnExactFillTermUptoRow.holds Try.pinned (OpenSpec.upto fnExactFillTermSpec)

/-- 'laws.FnExactNoteAt', WHERE WHAT IT READS IS OF BULK AT MOST 1048576: true; the input reads as it did. -/
def fnExactNoteAtUptoRow : OpenClaim := { program := "ytefifcmieicnlaa", sum := "19147f4699a1a6a7db7014a0282ca775eddb234fde36592c1959a5653ac102d8", func := "loop.example/depkernel/laws.FnExactNoteAt", spec := "fnExactNoteAt", unfollowed := true, recurses := true, loops := true, apart := false, narrowed := true }
def FnExactNoteAtUptoSaid : Prop := fnExactNoteAtUptoRow.holds Try.pinned (OpenSpec.upto fnExactNoteAtSpec)

/-- 'laws.FnExactMoreGeneral', WHERE WHAT IT READS IS OF BULK AT MOST 1048576: true; the input reads as it did. -/
def fnExactMoreGeneralUptoRow : OpenClaim := { program := "ytefifcmieicnlaa", sum := "19147f4699a1a6a7db7014a0282ca775eddb234fde36592c1959a5653ac102d8", func := "loop.example/depkernel/laws.FnExactMoreGeneral", spec := "fnExactMoreGeneral", unfollowed := true, recurses := true, loops := true, apart := false, narrowed := true }
def FnExactMoreGeneralUptoSaid : Prop := fnExactMoreGeneralUptoRow.holds Try.pinned (OpenSpec.upto fnExactMoreGeneralSpec)

/-- 'laws.FnExactMatchTerm', WHERE WHAT IT READS IS OF BULK AT MOST 1048576: true; the input reads as it did. -/
def fnExactMatchTermUptoRow : OpenClaim := { program := "ytefifcmieicnlaa", sum := "19147f4699a1a6a7db7014a0282ca775eddb234fde36592c1959a5653ac102d8", func := "loop.example/depkernel/laws.FnExactMatchTerm", spec := "fnExactMatchTerm", unfollowed := true, recurses := true, loops := true, apart := false, narrowed := true }
def FnExactMatchTermUptoSaid : Prop := fnExactMatchTermUptoRow.holds Try.pinned (OpenSpec.upto fnExactMatchTermSpec)

/-- 'laws.FnExactCommonPattern', WHERE WHAT IT READS IS OF BULK AT MOST 1048576: true; the input reads as it did. -/
def fnExactCommonPatternUptoRow : OpenClaim := { program := "ytefifcmieicnlaa", sum := "19147f4699a1a6a7db7014a0282ca775eddb234fde36592c1959a5653ac102d8", func := "loop.example/depkernel/laws.FnExactCommonPattern", spec := "fnExactCommonPattern", unfollowed := true, recurses := true, loops := true, apart := false, narrowed := true }
def FnExactCommonPatternUptoSaid : Prop := fnExactCommonPatternUptoRow.holds Try.pinned (OpenSpec.upto fnExactCommonPatternSpec)

/-- 'laws.FnExactRewriteTerm', WHERE WHAT IT READS IS OF BULK AT MOST 1048576: true; the input reads as it did. -/
def fnExactRewriteTermUptoRow : OpenClaim := { program := "ytefifcmieicnlaa", sum := "19147f4699a1a6a7db7014a0282ca775eddb234fde36592c1959a5653ac102d8", func := "loop.example/depkernel/laws.FnExactRewriteTerm", spec := "fnExactRewriteTerm", unfollowed := true, recurses := true, loops := true, apart := false, narrowed := true }
def FnExactRewriteTermUptoSaid : Prop := fnExactRewriteTermUptoRow.holds Try.pinned (OpenSpec.upto fnExactRewriteTermSpec)

/-- 'laws.FnFillOne', WHERE WHAT IT READS IS OF BULK AT MOST 1048576: true; the input reads as it did. -/
def fnFillOneUptoRow : OpenClaim := { program := "ytefifcmieicnlaa", sum := "19147f4699a1a6a7db7014a0282ca775eddb234fde36592c1959a5653ac102d8", func := "loop.example/depkernel/laws.FnFillOne", spec := "fnFillOne", unfollowed := true, recurses := true, apart := false, narrowed := true }
def FnFillOneUptoSaid : Prop := fnFillOneUptoRow.holds Try.pinned (OpenSpec.upto fnFillOneSpec)

end Rows
end Go.Proofs.Ytefifcmieicnlaa
