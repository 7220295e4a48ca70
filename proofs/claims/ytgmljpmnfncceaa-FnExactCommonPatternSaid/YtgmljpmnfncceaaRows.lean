/-
  NARROWER THAN 'FOR EVERY INPUT', by the rows' own cells (each row's printed sentence says how): FnExactCommonPattern: loops.
  DERIVED. THE GIVEN ROWS OF THIS SEAT. 2 by the template 'for every input the law returns true; each argument reads behind the call as it read before'; 0 by the template 'total and deterministic' (their statements: YtgmljpmnfncceaaTotals.lean).
  GIVEN WITH THE SEED: the statements are not yours to turn. If you find one false, say at which input.
  Laid BY PROGRAM, IN A SANDBOX (cutbox-rows.mjs): the forced cells as the released guide's own fill.sh prints them over the translation da8867eb776256f7… (all of the seat's roots in one cut). By AI agents, Wed Nov 11 2026. No macro, syntax, notation, axiom, sorry.
-/
import Derived.Test.YtgmljpmnfncceaaChecked
import GoSem.Claim
import GoSem.ClaimJoined
import GoSem.ClaimMapViews
import Derived.JoinedTies
import Derived.KernelRfl
namespace Go.Proofs.Ytgmljpmnfncceaa
/- THE CELL 'sum', in the pinned program and in every row, IS THE sha256 OF THE DUMP (.gsa) THAT YtgmljpmnfncceaaProg.lean LOADS. Nothing in Lean hashes anything: it is a label: what it is worth is what the hold of that sum in a sandbox is worth. -/
noncomputable def Try.pinned : Pinned := { name := "ytgmljpmnfncceaa", sum := "da8867eb776256f711db13a743c7b6ebd97425f83e7bca18e5ddd2ee2125357e", checked := Try.checked }
namespace Rows
def none {H : Type} : Left H := { results := [], args := [] }

/-- 'laws.FnExactCommonPattern': WHATEVER THE INPUT: true; the input reads as it did. -/
def fnExactCommonPatternSpec : ChangeSpec := { name := "fnExactCommonPattern", fn := fun _ => fun
  | [d1, d2] => { results := [.lit (.bool true)], args := [d1, d2] }
  | _ => none }
def fnExactCommonPatternRow : OpenClaim := { program := "ytgmljpmnfncceaa", sum := "da8867eb776256f711db13a743c7b6ebd97425f83e7bca18e5ddd2ee2125357e", func := "loop.example/depkernel/laws.FnExactCommonPattern", spec := "fnExactCommonPattern", unfollowed := true, recurses := true, loops := true, apart := false }
def FnExactCommonPatternSaid : Prop := fnExactCommonPatternRow.holds Try.pinned (OpenSpec.ofChange fnExactCommonPatternSpec)

/-- ITS FALSE NEIGHBOUR: 'it returns false'. Refute it at one input. -/
def fnExactCommonPatternWrong : ChangeSpec := { name := "fnExactCommonPattern", fn := fun _ => fun
  | [d1, d2] => { results := [.lit (.bool false)], args := [d1, d2] }
  | _ => none }
def FnExactCommonPatternWrongFalsely : Prop := fnExactCommonPatternRow.holds Try.pinned (OpenSpec.ofChange fnExactCommonPatternWrong)

/-- 'laws.FnNoteRoot': WHATEVER THE INPUT: true; the input reads as it did. -/
def fnNoteRootSpec : ChangeSpec := { name := "fnNoteRoot", fn := fun _ => fun
  | [d] => { results := [.lit (.bool true)], args := [d] }
  | _ => none }
def fnNoteRootRow : OpenClaim := { program := "ytgmljpmnfncceaa", sum := "da8867eb776256f711db13a743c7b6ebd97425f83e7bca18e5ddd2ee2125357e", func := "loop.example/depkernel/laws.FnNoteRoot", spec := "fnNoteRoot", unfollowed := true, recurses := true, apart := false }
def FnNoteRootSaid : Prop := fnNoteRootRow.holds Try.pinned (OpenSpec.ofChange fnNoteRootSpec)

/-- ITS FALSE NEIGHBOUR: 'it returns false'. Refute it at one input. -/
def fnNoteRootWrong : ChangeSpec := { name := "fnNoteRoot", fn := fun _ => fun
  | [d] => { results := [.lit (.bool false)], args := [d] }
  | _ => none }
def FnNoteRootWrongFalsely : Prop := fnNoteRootRow.holds Try.pinned (OpenSpec.ofChange fnNoteRootWrong)

/- THE SECOND FORM. 'bulk': how many values and letters a reading holds, each counted each time it is reached (what is shared counts as often as it is met; a slice's spare places count too). A statement '..UptoSaid' is the law's where the arguments, and the package variables that the reading takes, are together of bulk at most 1048576: NARROWER than '..Said'. Prove '..Said' where nothing that the law and all that it calls make is longer than what came in: it says more and counts as full. Else prove '..UptoSaid'. A law counts once. -/
mutual
def uptoBulk {H : Type} : DataW H → Nat
  | .lit (.string bytes) => bytes.length + 1
  | .lit _ => 1
  | .nil => 1
  | .ptr d => uptoBulk d + 1
  | .slice elems spare => uptoBulkAll elems + uptoBulkAll spare + 1
  | .agg parts => uptoBulkAll parts + 1
  | .iface _ d => uptoBulk d + 1
  | .map entries => uptoBulkEntries entries + 1
  | .held _ => 1
def uptoBulkAll {H : Type} : List (DataW H) → Nat
  | [] => 0
  | d :: r => uptoBulk d + uptoBulkAll r
def uptoBulkEntries {H : Type} : List (Lit × DataW H) → Nat
  | [] => 0
  | x :: r => uptoBulkEntry x + uptoBulkEntries r
def uptoBulkEntry {H : Type} : Lit × DataW H → Nat
  | (.string bytes, d) => bytes.length + uptoBulk d + 1
  | (_, d) => uptoBulk d + 1
 end
def uptoSmall : (H : Type) → List (DataW H) → Bool := fun _ ds => decide (uptoBulkAll ds ≤ 1048576)
def OpenSpec.upto (s : _root_.Go.ChangeSpec) : _root_.Go.OpenSpec := { _root_.Go.OpenSpec.ofChange s with cond := some uptoSmall }

/-- 'laws.FnExactCommonPattern', WHERE WHAT IT READS IS OF BULK AT MOST 1048576: true; the input reads as it did. -/
def fnExactCommonPatternUptoRow : OpenClaim := { program := "ytgmljpmnfncceaa", sum := "da8867eb776256f711db13a743c7b6ebd97425f83e7bca18e5ddd2ee2125357e", func := "loop.example/depkernel/laws.FnExactCommonPattern", spec := "fnExactCommonPattern", unfollowed := true, recurses := true, loops := true, apart := false, narrowed := true }
def FnExactCommonPatternUptoSaid : Prop := fnExactCommonPatternUptoRow.holds Try.pinned (OpenSpec.upto fnExactCommonPatternSpec)

/-- 'laws.FnNoteRoot', WHERE WHAT IT READS IS OF BULK AT MOST 1048576: true; the input reads as it did. -/
def fnNoteRootUptoRow : OpenClaim := { program := "ytgmljpmnfncceaa", sum := "da8867eb776256f711db13a743c7b6ebd97425f83e7bca18e5ddd2ee2125357e", func := "loop.example/depkernel/laws.FnNoteRoot", spec := "fnNoteRoot", unfollowed := true, recurses := true, apart := false, narrowed := true }
def FnNoteRootUptoSaid : Prop := fnNoteRootUptoRow.holds Try.pinned (OpenSpec.upto fnNoteRootSpec)

end Rows
end Go.Proofs.Ytgmljpmnfncceaa
