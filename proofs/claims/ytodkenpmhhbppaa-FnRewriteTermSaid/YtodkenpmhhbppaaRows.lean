/-
  No cell of these rows narrows 'for every input' (looked for: loops, veiled, ifaces, maps, wideKeys, modest, calm, conditions, laid).
  DERIVED. THE GIVEN ROWS OF THIS SEAT. 13 by the template 'for every input the law returns true; each argument reads behind the call as it read before'; 0 by the template 'total and deterministic' (their statements: YtodkenpmhhbppaaTotals.lean).
  GIVEN WITH THE SEED: the statements are not yours to turn. If you find one false, say at which input.
  Laid BY PROGRAM, IN A SANDBOX (cutbox-rows.mjs): the forced cells as the released guide's own fill.sh prints them over the translation a10ad7f1fc62631e… (all of the seat's roots in one cut). By AI agents, Wed Nov 11 2026. No macro, syntax, notation, axiom, sorry.
-/
import Derived.Test.YtodkenpmhhbppaaChecked
import GoSem.Claim
import GoSem.ClaimJoined
import GoSem.ClaimMapViews
import Derived.JoinedTies
import Derived.KernelRfl
namespace Go.Proofs.Ytodkenpmhhbppaa
/- THE CELL 'sum', in the pinned program and in every row, IS THE sha256 OF THE DUMP (.gsa) THAT YtodkenpmhhbppaaProg.lean LOADS. Nothing in Lean hashes anything: it is a label: what it is worth is what the hold of that sum in a sandbox is worth. -/
noncomputable def Try.pinned : Pinned := { name := "ytodkenpmhhbppaa", sum := "a10ad7f1fc62631e3dc3cb6d2ca12efaf8d387448f4eba035607ccbdbfdc86fc", checked := Try.checked }
namespace Rows
def none {H : Type} : Left H := { results := [], args := [] }

/-- 'laws.FnFillOne': WHATEVER THE INPUT: true; the input reads as it did. -/
def fnFillOneSpec : ChangeSpec := { name := "fnFillOne", fn := fun _ => fun
  | [d] => { results := [.lit (.bool true)], args := [d] }
  | _ => none }
def fnFillOneRow : OpenClaim := { program := "ytodkenpmhhbppaa", sum := "a10ad7f1fc62631e3dc3cb6d2ca12efaf8d387448f4eba035607ccbdbfdc86fc", func := "loop.example/depkernel/laws.FnFillOne", spec := "fnFillOne", unfollowed := true, recurses := true, apart := false }
def FnFillOneSaid : Prop := fnFillOneRow.holds Try.pinned (OpenSpec.ofChange fnFillOneSpec)

/-- ITS FALSE NEIGHBOUR: 'it returns false'. Refute it at one input. -/
def fnFillOneWrong : ChangeSpec := { name := "fnFillOne", fn := fun _ => fun
  | [d] => { results := [.lit (.bool false)], args := [d] }
  | _ => none }
def FnFillOneWrongFalsely : Prop := fnFillOneRow.holds Try.pinned (OpenSpec.ofChange fnFillOneWrong)

/-- 'laws.FnBlockingVar': WHATEVER THE INPUT: true; the input reads as it did. -/
def fnBlockingVarSpec : ChangeSpec := { name := "fnBlockingVar", fn := fun _ => fun
  | [d1, d2] => { results := [.lit (.bool true)], args := [d1, d2] }
  | _ => none }
def fnBlockingVarRow : OpenClaim := { program := "ytodkenpmhhbppaa", sum := "a10ad7f1fc62631e3dc3cb6d2ca12efaf8d387448f4eba035607ccbdbfdc86fc", func := "loop.example/depkernel/laws.FnBlockingVar", spec := "fnBlockingVar", unfollowed := true, recurses := true, apart := false }
def FnBlockingVarSaid : Prop := fnBlockingVarRow.holds Try.pinned (OpenSpec.ofChange fnBlockingVarSpec)

/-- ITS FALSE NEIGHBOUR: 'it returns false'. Refute it at one input. -/
def fnBlockingVarWrong : ChangeSpec := { name := "fnBlockingVar", fn := fun _ => fun
  | [d1, d2] => { results := [.lit (.bool false)], args := [d1, d2] }
  | _ => none }
def FnBlockingVarWrongFalsely : Prop := fnBlockingVarRow.holds Try.pinned (OpenSpec.ofChange fnBlockingVarWrong)

/-- 'laws.FnMoreGeneral': WHATEVER THE INPUT: true; the input reads as it did. -/
def fnMoreGeneralSpec : ChangeSpec := { name := "fnMoreGeneral", fn := fun _ => fun
  | [d1, d2] => { results := [.lit (.bool true)], args := [d1, d2] }
  | _ => none }
def fnMoreGeneralRow : OpenClaim := { program := "ytodkenpmhhbppaa", sum := "a10ad7f1fc62631e3dc3cb6d2ca12efaf8d387448f4eba035607ccbdbfdc86fc", func := "loop.example/depkernel/laws.FnMoreGeneral", spec := "fnMoreGeneral", unfollowed := true, recurses := true, apart := false }
def FnMoreGeneralSaid : Prop := fnMoreGeneralRow.holds Try.pinned (OpenSpec.ofChange fnMoreGeneralSpec)

/-- ITS FALSE NEIGHBOUR: 'it returns false'. Refute it at one input. -/
def fnMoreGeneralWrong : ChangeSpec := { name := "fnMoreGeneral", fn := fun _ => fun
  | [d1, d2] => { results := [.lit (.bool false)], args := [d1, d2] }
  | _ => none }
def FnMoreGeneralWrongFalsely : Prop := fnMoreGeneralRow.holds Try.pinned (OpenSpec.ofChange fnMoreGeneralWrong)

/-- 'laws.FnFillTerm': WHATEVER THE INPUT: true; the input reads as it did. -/
def fnFillTermSpec : ChangeSpec := { name := "fnFillTerm", fn := fun _ => fun
  | [d] => { results := [.lit (.bool true)], args := [d] }
  | _ => none }
def fnFillTermRow : OpenClaim := { program := "ytodkenpmhhbppaa", sum := "a10ad7f1fc62631e3dc3cb6d2ca12efaf8d387448f4eba035607ccbdbfdc86fc", func := "loop.example/depkernel/laws.FnFillTerm", spec := "fnFillTerm", unfollowed := true, recurses := true, apart := false }
def FnFillTermSaid : Prop := fnFillTermRow.holds Try.pinned (OpenSpec.ofChange fnFillTermSpec)

/-- ITS FALSE NEIGHBOUR: 'it returns false'. Refute it at one input. -/
def fnFillTermWrong : ChangeSpec := { name := "fnFillTerm", fn := fun _ => fun
  | [d] => { results := [.lit (.bool false)], args := [d] }
  | _ => none }
def FnFillTermWrongFalsely : Prop := fnFillTermRow.holds Try.pinned (OpenSpec.ofChange fnFillTermWrong)

/-- 'laws.FnMatchClosed': WHATEVER THE INPUT: true; the input reads as it did. -/
def fnMatchClosedSpec : ChangeSpec := { name := "fnMatchClosed", fn := fun _ => fun
  | [d] => { results := [.lit (.bool true)], args := [d] }
  | _ => none }
def fnMatchClosedRow : OpenClaim := { program := "ytodkenpmhhbppaa", sum := "a10ad7f1fc62631e3dc3cb6d2ca12efaf8d387448f4eba035607ccbdbfdc86fc", func := "loop.example/depkernel/laws.FnMatchClosed", spec := "fnMatchClosed", unfollowed := true, recurses := true, apart := false }
def FnMatchClosedSaid : Prop := fnMatchClosedRow.holds Try.pinned (OpenSpec.ofChange fnMatchClosedSpec)

/-- ITS FALSE NEIGHBOUR: 'it returns false'. Refute it at one input. -/
def fnMatchClosedWrong : ChangeSpec := { name := "fnMatchClosed", fn := fun _ => fun
  | [d] => { results := [.lit (.bool false)], args := [d] }
  | _ => none }
def FnMatchClosedWrongFalsely : Prop := fnMatchClosedRow.holds Try.pinned (OpenSpec.ofChange fnMatchClosedWrong)

/-- 'laws.FnMatchHole': WHATEVER THE INPUT: true; the input reads as it did. -/
def fnMatchHoleSpec : ChangeSpec := { name := "fnMatchHole", fn := fun _ => fun
  | [d] => { results := [.lit (.bool true)], args := [d] }
  | _ => none }
def fnMatchHoleRow : OpenClaim := { program := "ytodkenpmhhbppaa", sum := "a10ad7f1fc62631e3dc3cb6d2ca12efaf8d387448f4eba035607ccbdbfdc86fc", func := "loop.example/depkernel/laws.FnMatchHole", spec := "fnMatchHole", unfollowed := true, recurses := true, apart := false }
def FnMatchHoleSaid : Prop := fnMatchHoleRow.holds Try.pinned (OpenSpec.ofChange fnMatchHoleSpec)

/-- ITS FALSE NEIGHBOUR: 'it returns false'. Refute it at one input. -/
def fnMatchHoleWrong : ChangeSpec := { name := "fnMatchHole", fn := fun _ => fun
  | [d] => { results := [.lit (.bool false)], args := [d] }
  | _ => none }
def FnMatchHoleWrongFalsely : Prop := fnMatchHoleRow.holds Try.pinned (OpenSpec.ofChange fnMatchHoleWrong)

/-- 'laws.FnMatchTerm': WHATEVER THE INPUT: true; the input reads as it did. -/
def fnMatchTermSpec : ChangeSpec := { name := "fnMatchTerm", fn := fun _ => fun
  | [d] => { results := [.lit (.bool true)], args := [d] }
  | _ => none }
def fnMatchTermRow : OpenClaim := { program := "ytodkenpmhhbppaa", sum := "a10ad7f1fc62631e3dc3cb6d2ca12efaf8d387448f4eba035607ccbdbfdc86fc", func := "loop.example/depkernel/laws.FnMatchTerm", spec := "fnMatchTerm", unfollowed := true, recurses := true, apart := false }
def FnMatchTermSaid : Prop := fnMatchTermRow.holds Try.pinned (OpenSpec.ofChange fnMatchTermSpec)

/-- ITS FALSE NEIGHBOUR: 'it returns false'. Refute it at one input. -/
def fnMatchTermWrong : ChangeSpec := { name := "fnMatchTerm", fn := fun _ => fun
  | [d] => { results := [.lit (.bool false)], args := [d] }
  | _ => none }
def FnMatchTermWrongFalsely : Prop := fnMatchTermRow.holds Try.pinned (OpenSpec.ofChange fnMatchTermWrong)

/-- 'laws.FnTypeForm': WHATEVER THE INPUT: true; the input reads as it did. -/
def fnTypeFormSpec : ChangeSpec := { name := "fnTypeForm", fn := fun _ => fun
  | [d] => { results := [.lit (.bool true)], args := [d] }
  | _ => none }
def fnTypeFormRow : OpenClaim := { program := "ytodkenpmhhbppaa", sum := "a10ad7f1fc62631e3dc3cb6d2ca12efaf8d387448f4eba035607ccbdbfdc86fc", func := "loop.example/depkernel/laws.FnTypeForm", spec := "fnTypeForm", recurses := true, apart := false }
def FnTypeFormSaid : Prop := fnTypeFormRow.holds Try.pinned (OpenSpec.ofChange fnTypeFormSpec)

/-- ITS FALSE NEIGHBOUR: 'it returns false'. Refute it at one input. -/
def fnTypeFormWrong : ChangeSpec := { name := "fnTypeForm", fn := fun _ => fun
  | [d] => { results := [.lit (.bool false)], args := [d] }
  | _ => none }
def FnTypeFormWrongFalsely : Prop := fnTypeFormRow.holds Try.pinned (OpenSpec.ofChange fnTypeFormWrong)

/-- 'laws.FnCommonSame': WHATEVER THE INPUT: true; the input reads as it did. -/
def fnCommonSameSpec : ChangeSpec := { name := "fnCommonSame", fn := fun _ => fun
  | [d] => { results := [.lit (.bool true)], args := [d] }
  | _ => none }
def fnCommonSameRow : OpenClaim := { program := "ytodkenpmhhbppaa", sum := "a10ad7f1fc62631e3dc3cb6d2ca12efaf8d387448f4eba035607ccbdbfdc86fc", func := "loop.example/depkernel/laws.FnCommonSame", spec := "fnCommonSame", unfollowed := true, recurses := true, apart := false }
def FnCommonSameSaid : Prop := fnCommonSameRow.holds Try.pinned (OpenSpec.ofChange fnCommonSameSpec)

/-- ITS FALSE NEIGHBOUR: 'it returns false'. Refute it at one input. -/
def fnCommonSameWrong : ChangeSpec := { name := "fnCommonSame", fn := fun _ => fun
  | [d] => { results := [.lit (.bool false)], args := [d] }
  | _ => none }
def FnCommonSameWrongFalsely : Prop := fnCommonSameRow.holds Try.pinned (OpenSpec.ofChange fnCommonSameWrong)

/-- 'laws.FnNeutralApply': WHATEVER THE INPUT: true; the input reads as it did. -/
def fnNeutralApplySpec : ChangeSpec := { name := "fnNeutralApply", fn := fun _ => fun
  | [d] => { results := [.lit (.bool true)], args := [d] }
  | _ => none }
def fnNeutralApplyRow : OpenClaim := { program := "ytodkenpmhhbppaa", sum := "a10ad7f1fc62631e3dc3cb6d2ca12efaf8d387448f4eba035607ccbdbfdc86fc", func := "loop.example/depkernel/laws.FnNeutralApply", spec := "fnNeutralApply", recurses := true, apart := false }
def FnNeutralApplySaid : Prop := fnNeutralApplyRow.holds Try.pinned (OpenSpec.ofChange fnNeutralApplySpec)

/-- ITS FALSE NEIGHBOUR: 'it returns false'. Refute it at one input. -/
def fnNeutralApplyWrong : ChangeSpec := { name := "fnNeutralApply", fn := fun _ => fun
  | [d] => { results := [.lit (.bool false)], args := [d] }
  | _ => none }
def FnNeutralApplyWrongFalsely : Prop := fnNeutralApplyRow.holds Try.pinned (OpenSpec.ofChange fnNeutralApplyWrong)

/-- 'laws.FnFormOf': WHATEVER THE INPUT: true; the input reads as it did. -/
def fnFormOfSpec : ChangeSpec := { name := "fnFormOf", fn := fun _ => fun
  | [d] => { results := [.lit (.bool true)], args := [d] }
  | _ => none }
def fnFormOfRow : OpenClaim := { program := "ytodkenpmhhbppaa", sum := "a10ad7f1fc62631e3dc3cb6d2ca12efaf8d387448f4eba035607ccbdbfdc86fc", func := "loop.example/depkernel/laws.FnFormOf", spec := "fnFormOf", unfollowed := true, recurses := true, apart := false }
def FnFormOfSaid : Prop := fnFormOfRow.holds Try.pinned (OpenSpec.ofChange fnFormOfSpec)

/-- ITS FALSE NEIGHBOUR: 'it returns false'. Refute it at one input. -/
def fnFormOfWrong : ChangeSpec := { name := "fnFormOf", fn := fun _ => fun
  | [d] => { results := [.lit (.bool false)], args := [d] }
  | _ => none }
def FnFormOfWrongFalsely : Prop := fnFormOfRow.holds Try.pinned (OpenSpec.ofChange fnFormOfWrong)

/-- 'laws.FnCommonPattern': WHATEVER THE INPUT: true; the input reads as it did. -/
def fnCommonPatternSpec : ChangeSpec := { name := "fnCommonPattern", fn := fun _ => fun
  | [d] => { results := [.lit (.bool true)], args := [d] }
  | _ => none }
def fnCommonPatternRow : OpenClaim := { program := "ytodkenpmhhbppaa", sum := "a10ad7f1fc62631e3dc3cb6d2ca12efaf8d387448f4eba035607ccbdbfdc86fc", func := "loop.example/depkernel/laws.FnCommonPattern", spec := "fnCommonPattern", unfollowed := true, recurses := true, apart := false }
def FnCommonPatternSaid : Prop := fnCommonPatternRow.holds Try.pinned (OpenSpec.ofChange fnCommonPatternSpec)

/-- ITS FALSE NEIGHBOUR: 'it returns false'. Refute it at one input. -/
def fnCommonPatternWrong : ChangeSpec := { name := "fnCommonPattern", fn := fun _ => fun
  | [d] => { results := [.lit (.bool false)], args := [d] }
  | _ => none }
def FnCommonPatternWrongFalsely : Prop := fnCommonPatternRow.holds Try.pinned (OpenSpec.ofChange fnCommonPatternWrong)

/-- 'laws.FnRewriteTerm': WHATEVER THE INPUT: true; the input reads as it did. -/
def fnRewriteTermSpec : ChangeSpec := { name := "fnRewriteTerm", fn := fun _ => fun
  | [d] => { results := [.lit (.bool true)], args := [d] }
  | _ => none }
def fnRewriteTermRow : OpenClaim := { program := "ytodkenpmhhbppaa", sum := "a10ad7f1fc62631e3dc3cb6d2ca12efaf8d387448f4eba035607ccbdbfdc86fc", func := "loop.example/depkernel/laws.FnRewriteTerm", spec := "fnRewriteTerm", unfollowed := true, recurses := true, apart := false }
def FnRewriteTermSaid : Prop := fnRewriteTermRow.holds Try.pinned (OpenSpec.ofChange fnRewriteTermSpec)

/-- ITS FALSE NEIGHBOUR: 'it returns false'. Refute it at one input. -/
def fnRewriteTermWrong : ChangeSpec := { name := "fnRewriteTerm", fn := fun _ => fun
  | [d] => { results := [.lit (.bool false)], args := [d] }
  | _ => none }
def FnRewriteTermWrongFalsely : Prop := fnRewriteTermRow.holds Try.pinned (OpenSpec.ofChange fnRewriteTermWrong)

/- THE SECOND FORM. 'bulk': how many values and letters a reading holds, each counted each time it is reached (what is shared counts as often as it is met; a slice's spare places count too). A statement '..UptoSaid' is the law's where the arguments, and the package variables that the reading takes, are together of bulk at most 1048576: NARROWER than '..Said'. Prove '..Said' where nothing that the law and all that it calls make is longer than what came in: it says more and counts as full. Else prove '..UptoSaid'. A law counts once. -/
mutual
def uptoBulk {H : Type} : DataW H → Nat
  | .lit (.string bytes) => bytes.length + 1
  | .lit _ => 1
  | .nil => 1
  | .ptr d => uptoBulk d + 1
  | .slice elems spare => uptoBulkAll elems + uptoBulkAll spare + 1
  | .agg parts => uptoBulkAll parts + 1
  | .iface _ d => uptoBulk d + 1
  | .map entries => uptoBulkEntries entries + 1
  | .held _ => 1
def uptoBulkAll {H : Type} : List (DataW H) → Nat
  | [] => 0
  | d :: r => uptoBulk d + uptoBulkAll r
def uptoBulkEntries {H : Type} : List (Lit × DataW H) → Nat
  | [] => 0
  | x :: r => uptoBulkEntry x + uptoBulkEntries r
def uptoBulkEntry {H : Type} : Lit × DataW H → Nat
  | (.string bytes, d) => bytes.length + uptoBulk d + 1
  | (_, d) => uptoBulk d + 1
 end
def uptoSmall : (H : Type) → List (DataW H) → Bool := fun _ ds => decide (uptoBulkAll ds ≤ 1048576)
def OpenSpec.upto (s : _root_.Go.ChangeSpec) : _root_.Go.OpenSpec := { _root_.Go.OpenSpec.ofChange s with cond := some uptoSmall }

/-- 'laws.FnFillOne', WHERE WHAT IT READS IS OF BULK AT MOST 1048576: true; the input reads as it did. -/
def fnFillOneUptoRow : OpenClaim := { program := "ytodkenpmhhbppaa", sum := "a10ad7f1fc62631e3dc3cb6d2ca12efaf8d387448f4eba035607ccbdbfdc86fc", func := "loop.example/depkernel/laws.FnFillOne", spec := "fnFillOne", unfollowed := true, recurses := true, apart := false, narrowed := true }
def FnFillOneUptoSaid : Prop := fnFillOneUptoRow.holds Try.pinned (OpenSpec.upto fnFillOneSpec)

/-- 'laws.FnBlockingVar', WHERE WHAT IT READS IS OF BULK AT MOST 1048576: true; the input reads as it did. -/
def fnBlockingVarUptoRow : OpenClaim := { program := "ytodkenpmhhbppaa", sum := "a10ad7f1fc62631e3dc3cb6d2ca12efaf8d387448f4eba035607ccbdbfdc86fc", func := "loop.example/depkernel/laws.FnBlockingVar", spec := "fnBlockingVar", unfollowed := true, recurses := true, apart := false, narrowed := true }
def FnBlockingVarUptoSaid : Prop := fnBlockingVarUptoRow.holds Try.pinned (OpenSpec.upto fnBlockingVarSpec)

/-- 'laws.FnMoreGeneral', WHERE WHAT IT READS IS OF BULK AT MOST 1048576: true; the input reads as it did. -/
def fnMoreGeneralUptoRow : OpenClaim := { program := "ytodkenpmhhbppaa", sum := "a10ad7f1fc62631e3dc3cb6d2ca12efaf8d387448f4eba035607ccbdbfdc86fc", func := "loop.example/depkernel/laws.FnMoreGeneral", spec := "fnMoreGeneral", unfollowed := true, recurses := true, apart := false, narrowed := true }
def FnMoreGeneralUptoSaid : Prop := fnMoreGeneralUptoRow.holds Try.pinned (OpenSpec.upto fnMoreGeneralSpec)

/-- 'laws.FnFillTerm', WHERE WHAT IT READS IS OF BULK AT MOST 1048576: true; the input reads as it did. -/
def fnFillTermUptoRow : OpenClaim := { program := "ytodkenpmhhbppaa", sum := "a10ad7f1fc62631e3dc3cb6d2ca12efaf8d387448f4eba035607ccbdbfdc86fc", func := "loop.example/depkernel/laws.FnFillTerm", spec := "fnFillTerm", unfollowed := true, recurses := true, apart := false, narrowed := true }
def FnFillTermUptoSaid : Prop := fnFillTermUptoRow.holds Try.pinned (OpenSpec.upto fnFillTermSpec)

/-- 'laws.FnMatchClosed', WHERE WHAT IT READS IS OF BULK AT MOST 1048576: true; the input reads as it did. -/
def fnMatchClosedUptoRow : OpenClaim := { program := "ytodkenpmhhbppaa", sum := "a10ad7f1fc62631e3dc3cb6d2ca12efaf8d387448f4eba035607ccbdbfdc86fc", func := "loop.example/depkernel/laws.FnMatchClosed", spec := "fnMatchClosed", unfollowed := true, recurses := true, apart := false, narrowed := true }
def FnMatchClosedUptoSaid : Prop := fnMatchClosedUptoRow.holds Try.pinned (OpenSpec.upto fnMatchClosedSpec)

/-- 'laws.FnMatchHole', WHERE WHAT IT READS IS OF BULK AT MOST 1048576: true; the input reads as it did. -/
def fnMatchHoleUptoRow : OpenClaim := { program := "ytodkenpmhhbppaa", sum := "a10ad7f1fc62631e3dc3cb6d2ca12efaf8d387448f4eba035607ccbdbfdc86fc", func := "loop.example/depkernel/laws.FnMatchHole", spec := "fnMatchHole", unfollowed := true, recurses := true, apart := false, narrowed := true }
def FnMatchHoleUptoSaid : Prop := fnMatchHoleUptoRow.holds Try.pinned (OpenSpec.upto fnMatchHoleSpec)

/-- 'laws.FnMatchTerm', WHERE WHAT IT READS IS OF BULK AT MOST 1048576: true; the input reads as it did. -/
def fnMatchTermUptoRow : OpenClaim := { program := "ytodkenpmhhbppaa", sum := "a10ad7f1fc62631e3dc3cb6d2ca12efaf8d387448f4eba035607ccbdbfdc86fc", func := "loop.example/depkernel/laws.FnMatchTerm", spec := "fnMatchTerm", unfollowed := true, recurses := true, apart := false, narrowed := true }
def FnMatchTermUptoSaid : Prop := fnMatchTermUptoRow.holds Try.pinned (OpenSpec.upto fnMatchTermSpec)

/-- 'laws.FnTypeForm', WHERE WHAT IT READS IS OF BULK AT MOST 1048576: true; the input reads as it did. -/
def fnTypeFormUptoRow : OpenClaim := { program := "ytodkenpmhhbppaa", sum := "a10ad7f1fc62631e3dc3cb6d2ca12efaf8d387448f4eba035607ccbdbfdc86fc", func := "loop.example/depkernel/laws.FnTypeForm", spec := "fnTypeForm", recurses := true, apart := false, narrowed := true }
def FnTypeFormUptoSaid : Prop := fnTypeFormUptoRow.holds Try.pinned (OpenSpec.upto fnTypeFormSpec)

/-- 'laws.FnCommonSame', WHERE WHAT IT READS IS OF BULK AT MOST 1048576: true; the input reads as it did. -/
def fnCommonSameUptoRow : OpenClaim := { program := "ytodkenpmhhbppaa", sum := "a10ad7f1fc62631e3dc3cb6d2ca12efaf8d387448f4eba035607ccbdbfdc86fc", func := "loop.example/depkernel/laws.FnCommonSame", spec := "fnCommonSame", unfollowed := true, recurses := true, apart := false, narrowed := true }
def FnCommonSameUptoSaid : Prop := fnCommonSameUptoRow.holds Try.pinned (OpenSpec.upto fnCommonSameSpec)

/-- 'laws.FnNeutralApply', WHERE WHAT IT READS IS OF BULK AT MOST 1048576: true; the input reads as it did. -/
def fnNeutralApplyUptoRow : OpenClaim := { program := "ytodkenpmhhbppaa", sum := "a10ad7f1fc62631e3dc3cb6d2ca12efaf8d387448f4eba035607ccbdbfdc86fc", func := "loop.example/depkernel/laws.FnNeutralApply", spec := "fnNeutralApply", recurses := true, apart := false, narrowed := true }
def FnNeutralApplyUptoSaid : Prop := fnNeutralApplyUptoRow.holds Try.pinned (OpenSpec.upto fnNeutralApplySpec)

/-- 'laws.FnFormOf', WHERE WHAT IT READS IS OF BULK AT MOST 1048576: true; the input reads as it did. -/
def fnFormOfUptoRow : OpenClaim := { program := "ytodkenpmhhbppaa", sum := "a10ad7f1fc62631e3dc3cb6d2ca12efaf8d387448f4eba035607ccbdbfdc86fc", func := "loop.example/depkernel/laws.FnFormOf", spec := "fnFormOf", unfollowed := true, recurses := true, apart := false, narrowed := true }
def FnFormOfUptoSaid : Prop := fnFormOfUptoRow.holds Try.pinned (OpenSpec.upto fnFormOfSpec)

/-- 'laws.FnCommonPattern', WHERE WHAT IT READS IS OF BULK AT MOST 1048576: true; the input reads as it did. -/
def fnCommonPatternUptoRow : OpenClaim := { program := "ytodkenpmhhbppaa", sum := "a10ad7f1fc62631e3dc3cb6d2ca12efaf8d387448f4eba035607ccbdbfdc86fc", func := "loop.example/depkernel/laws.FnCommonPattern", spec := "fnCommonPattern", unfollowed := true, recurses := true, apart := false, narrowed := true }
def FnCommonPatternUptoSaid : Prop := fnCommonPatternUptoRow.holds Try.pinned (OpenSpec.upto fnCommonPatternSpec)

/-- 'laws.FnRewriteTerm', WHERE WHAT IT READS IS OF BULK AT MOST 1048576: true; the input reads as it did. -/
def fnRewriteTermUptoRow : OpenClaim := { program := "ytodkenpmhhbppaa", sum := "a10ad7f1fc62631e3dc3cb6d2ca12efaf8d387448f4eba035607ccbdbfdc86fc", func := "loop.example/depkernel/laws.FnRewriteTerm", spec := "fnRewriteTerm", unfollowed := true, recurses := true, apart := false, narrowed := true }
def FnRewriteTermUptoSaid : Prop := fnRewriteTermUptoRow.holds Try.pinned (OpenSpec.upto fnRewriteTermSpec)

end Rows
end Go.Proofs.Ytodkenpmhhbppaa
