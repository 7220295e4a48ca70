/-
  NARROWER THAN 'FOR EVERY INPUT', by the rows' own cells (each row's printed sentence says how): FnExactUsableVars: loops · FnExactInhabited: loops · FnExactSearchTerms: loops · FnExactProveEqual: loops.
  DERIVED. THE GIVEN ROWS OF THIS SEAT. 4 by the template 'for every input the law returns true; each argument reads behind the call as it read before'; 0 by the template 'total and deterministic' (their statements: YtjlaenhcemacdaaGreatTotals.lean).
  GIVEN WITH THE SEED: the statements are not yours to turn. If you find one false, say at which input.
  Laid BY PROGRAM, IN A SANDBOX (cutbox-rows.mjs): the forced cells as the released guide's own fill.sh prints them over the translation aa8cb84a98cf08b5… (all of the seat's roots in one cut). By AI agents, Wed Nov 11 2026. No macro, syntax, notation, axiom, sorry.
-/
import Derived.Test.YtjlaenhcemacdaaGreatChecked
import GoSem.Claim
import GoSem.ClaimJoined
import GoSem.ClaimMapViews
import Derived.JoinedTies
import Derived.KernelRfl
namespace Go.Proofs.YtjlaenhcemacdaaGreat
/- THE CELL 'sum', in the pinned program and in every row, IS THE sha256 OF THE DUMP (.gsa) THAT YtjlaenhcemacdaaGreatProg.lean LOADS. Nothing in Lean hashes anything: it is a label: what it is worth is what the hold of that sum in a sandbox is worth. -/
noncomputable def Tryz.pinned : Pinned := { name := "ytjlaenhcemacdaagreat", sum := "aa8cb84a98cf08b57a3d235553936fa3c213fb02479b277392943d707461dcac", checked := Tryz.checked }
namespace Rows
def none {H : Type} : Left H := { results := [], args := [] }

/-- 'laws.FnExactUsableVars': WHATEVER THE INPUT: true; the input reads as it did. -/
def fnExactUsableVarsSpec : ChangeSpec := { name := "fnExactUsableVars", fn := fun _ => fun
  | [d1, d2] => { results := [.lit (.bool true)], args := [d1, d2] }
  | _ => none }
def fnExactUsableVarsRow : OpenClaim := { program := "ytjlaenhcemacdaagreat", sum := "aa8cb84a98cf08b57a3d235553936fa3c213fb02479b277392943d707461dcac", func := "loop.example/depkernel/laws.FnExactUsableVars", spec := "fnExactUsableVars", unfollowed := true, recurses := true, loops := true, apart := false }
def FnExactUsableVarsSaid : Prop := fnExactUsableVarsRow.holds Tryz.pinned (OpenSpec.ofChange fnExactUsableVarsSpec)

/-- ITS FALSE NEIGHBOUR: 'it returns false'. Refute it at one input. -/
def fnExactUsableVarsWrong : ChangeSpec := { name := "fnExactUsableVars", fn := fun _ => fun
  | [d1, d2] => { results := [.lit (.bool false)], args := [d1, d2] }
  | _ => none }
def FnExactUsableVarsWrongFalsely : Prop := fnExactUsableVarsRow.holds Tryz.pinned (OpenSpec.ofChange fnExactUsableVarsWrong)

/-- 'laws.FnExactInhabited': WHATEVER THE INPUT: true; the input reads as it did. -/
def fnExactInhabitedSpec : ChangeSpec := { name := "fnExactInhabited", fn := fun _ => fun
  | [d1, d2, d3] => { results := [.lit (.bool true)], args := [d1, d2, d3] }
  | _ => none }
def fnExactInhabitedRow : OpenClaim := { program := "ytjlaenhcemacdaagreat", sum := "aa8cb84a98cf08b57a3d235553936fa3c213fb02479b277392943d707461dcac", func := "loop.example/depkernel/laws.FnExactInhabited", spec := "fnExactInhabited", unfollowed := true, recurses := true, loops := true, apart := false }
def FnExactInhabitedSaid : Prop := fnExactInhabitedRow.holds Tryz.pinned (OpenSpec.ofChange fnExactInhabitedSpec)

/-- ITS FALSE NEIGHBOUR: 'it returns false'. Refute it at one input. -/
def fnExactInhabitedWrong : ChangeSpec := { name := "fnExactInhabited", fn := fun _ => fun
  | [d1, d2, d3] => { results := [.lit (.bool false)], args := [d1, d2, d3] }
  | _ => none }
def FnExactInhabitedWrongFalsely : Prop := fnExactInhabitedRow.holds Tryz.pinned (OpenSpec.ofChange fnExactInhabitedWrong)

/-- 'laws.FnExactSearchTerms': WHATEVER THE INPUT: true; the input reads as it did. -/
def fnExactSearchTermsSpec : ChangeSpec := { name := "fnExactSearchTerms", fn := fun _ => fun
  | [d1, d2, d3] => { results := [.lit (.bool true)], args := [d1, d2, d3] }
  | _ => none }
def fnExactSearchTermsRow : OpenClaim := { program := "ytjlaenhcemacdaagreat", sum := "aa8cb84a98cf08b57a3d235553936fa3c213fb02479b277392943d707461dcac", func := "loop.example/depkernel/laws.FnExactSearchTerms", spec := "fnExactSearchTerms", unfollowed := true, recurses := true, loops := true, apart := false }
def FnExactSearchTermsSaid : Prop := fnExactSearchTermsRow.holds Tryz.pinned (OpenSpec.ofChange fnExactSearchTermsSpec)

/-- ITS FALSE NEIGHBOUR: 'it returns false'. Refute it at one input. -/
def fnExactSearchTermsWrong : ChangeSpec := { name := "fnExactSearchTerms", fn := fun _ => fun
  | [d1, d2, d3] => { results := [.lit (.bool false)], args := [d1, d2, d3] }
  | _ => none }
def FnExactSearchTermsWrongFalsely : Prop := fnExactSearchTermsRow.holds Tryz.pinned (OpenSpec.ofChange fnExactSearchTermsWrong)

/-- 'laws.FnExactProveEqual': WHATEVER THE INPUT: true; the input reads as it did. -/
def fnExactProveEqualSpec : ChangeSpec := { name := "fnExactProveEqual", fn := fun _ => fun
  | [d1, d2, d3] => { results := [.lit (.bool true)], args := [d1, d2, d3] }
  | _ => none }
def fnExactProveEqualRow : OpenClaim := { program := "ytjlaenhcemacdaagreat", sum := "aa8cb84a98cf08b57a3d235553936fa3c213fb02479b277392943d707461dcac", func := "loop.example/depkernel/laws.FnExactProveEqual", spec := "fnExactProveEqual", unfollowed := true, recurses := true, loops := true, apart := false }
def FnExactProveEqualSaid : Prop := fnExactProveEqualRow.holds Tryz.pinned (OpenSpec.ofChange fnExactProveEqualSpec)

/-- ITS FALSE NEIGHBOUR: 'it returns false'. Refute it at one input. -/
def fnExactProveEqualWrong : ChangeSpec := { name := "fnExactProveEqual", fn := fun _ => fun
  | [d1, d2, d3] => { results := [.lit (.bool false)], args := [d1, d2, d3] }
  | _ => none }
def FnExactProveEqualWrongFalsely : Prop := fnExactProveEqualRow.holds Tryz.pinned (OpenSpec.ofChange fnExactProveEqualWrong)

/- THE SECOND FORM. 'bulk': how many values and letters a reading holds, each counted each time it is reached (what is shared counts as often as it is met; a slice's spare places count too). A statement '..UptoSaid' is the law's where the arguments, and the package variables that the reading takes, are together of bulk at most 1048576: NARROWER than '..Said'. Prove '..Said' where nothing that the law and all that it calls make is longer than what came in: it says more and counts as full. Else prove '..UptoSaid'. A law counts once. -/
mutual
def uptoBulk {H : Type} : DataW H → Nat
  | .lit (.string bytes) => bytes.length + 1
  | .lit _ => 1
  | .nil => 1
  | .ptr d => uptoBulk d + 1
  | .slice elems spare => uptoBulkAll elems + uptoBulkAll spare + 1
  | .agg parts => uptoBulkAll parts + 1
  | .iface _ d => uptoBulk d + 1
  | .map entries => uptoBulkEntries entries + 1
  | .held _ => 1
def uptoBulkAll {H : Type} : List (DataW H) → Nat
  | [] => 0
  | d :: r => uptoBulk d + uptoBulkAll r
def uptoBulkEntries {H : Type} : List (Lit × DataW H) → Nat
  | [] => 0
  | x :: r => uptoBulkEntry x + uptoBulkEntries r
def uptoBulkEntry {H : Type} : Lit × DataW H → Nat
  | (.string bytes, d) => bytes.length + uptoBulk d + 1
  | (_, d) => uptoBulk d + 1
 end
def uptoSmall : (H : Type) → List (DataW H) → Bool := fun _ ds => decide (uptoBulkAll ds ≤ 1048576)
def OpenSpec.upto (s : _root_.Go.ChangeSpec) : _root_.Go.OpenSpec := { _root_.Go.OpenSpec.ofChange s with cond := some uptoSmall }

/-- 'laws.FnExactUsableVars', WHERE WHAT IT READS IS OF BULK AT MOST 1048576: true; the input reads as it did. -/
def fnExactUsableVarsUptoRow : OpenClaim := { program := "ytjlaenhcemacdaagreat", sum := "aa8cb84a98cf08b57a3d235553936fa3c213fb02479b277392943d707461dcac", func := "loop.example/depkernel/laws.FnExactUsableVars", spec := "fnExactUsableVars", unfollowed := true, recurses := true, loops := true, apart := false, narrowed := true }
def FnExactUsableVarsUptoSaid : Prop := fnExactUsableVarsUptoRow.holds Tryz.pinned (OpenSpec.upto fnExactUsableVarsSpec)

/-- 'laws.FnExactInhabited', WHERE WHAT IT READS IS OF BULK AT MOST 1048576: true; the input reads as it did. -/
def fnExactInhabitedUptoRow : OpenClaim := { program := "ytjlaenhcemacdaagreat", sum := "aa8cb84a98cf08b57a3d235553936fa3c213fb02479b277392943d707461dcac", func := "loop.example/depkernel/laws.FnExactInhabited", spec := "fnExactInhabited", unfollowed := true, recurses := true, loops := true, apart := false, narrowed := true }
def FnExactInhabitedUptoSaid : Prop := fnExactInhabitedUptoRow.holds Tryz.pinned (OpenSpec.upto fnExactInhabitedSpec)

/-- 'laws.FnExactSearchTerms', WHERE WHAT IT READS IS OF BULK AT MOST 1048576: true; the input reads as it did. -/
def fnExactSearchTermsUptoRow : OpenClaim := { program := "ytjlaenhcemacdaagreat", sum := "aa8cb84a98cf08b57a3d235553936fa3c213fb02479b277392943d707461dcac", func := "loop.example/depkernel/laws.FnExactSearchTerms", spec := "fnExactSearchTerms", unfollowed := true, recurses := true, loops := true, apart := false, narrowed := true }
def FnExactSearchTermsUptoSaid : Prop := fnExactSearchTermsUptoRow.holds Tryz.pinned (OpenSpec.upto fnExactSearchTermsSpec)

/-- 'laws.FnExactProveEqual', WHERE WHAT IT READS IS OF BULK AT MOST 1048576: true; the input reads as it did. -/
def fnExactProveEqualUptoRow : OpenClaim := { program := "ytjlaenhcemacdaagreat", sum := "aa8cb84a98cf08b57a3d235553936fa3c213fb02479b277392943d707461dcac", func := "loop.example/depkernel/laws.FnExactProveEqual", spec := "fnExactProveEqual", unfollowed := true, recurses := true, loops := true, apart := false, narrowed := true }
def FnExactProveEqualUptoSaid : Prop := fnExactProveEqualUptoRow.holds Tryz.pinned (OpenSpec.upto fnExactProveEqualSpec)

end Rows
end Go.Proofs.YtjlaenhcemacdaaGreat
