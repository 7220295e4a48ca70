/-
  No cell of these rows narrows 'for every input' (looked for: loops, veiled, ifaces, maps, wideKeys, modest, calm, conditions, laid).
  DERIVED. THE GIVEN ROWS OF THIS SEAT. 2 by the template 'for every input the law returns true; each argument reads behind the call as it read before'; 0 by the template 'total and deterministic' (their statements: YtajjhldcjikkpaaGreatTotals.lean).
  GIVEN WITH THE SEED: the statements are not yours to turn. If you find one false, say at which input.
  Laid BY PROGRAM, IN A SANDBOX (cutbox-rows.mjs): the forced cells as the released guide's own fill.sh prints them over the translation fb67884c97ffdb12… (all of the seat's roots in one cut). By AI agents, Wed Nov 11 2026. No macro, syntax, notation, axiom, sorry.
-/
import Derived.Test.YtajjhldcjikkpaaGreatChecked
import GoSem.Claim
import GoSem.ClaimJoined
import GoSem.ClaimMapViews
import Derived.JoinedTies
import Derived.KernelRfl
namespace Go.Proofs.YtajjhldcjikkpaaGreat
/- THE CELL 'sum', in the pinned program and in every row, IS THE sha256 OF THE DUMP (.gsa) THAT YtajjhldcjikkpaaGreatProg.lean LOADS. Nothing in Lean hashes anything: it is a label: what it is worth is what the hold of that sum in a sandbox is worth. -/
noncomputable def Tryz.pinned : Pinned := { name := "ytajjhldcjikkpaagreat", sum := "fb67884c97ffdb12046301a5c53b70b34590c7c712db17b0e4965d1089e3c843", checked := Tryz.checked }
namespace Rows
def none {H : Type} : Left H := { results := [], args := [] }

/-- 'laws.FnNumberSucc': WHATEVER THE INPUT: true; the input reads as it did. -/
def fnNumberSuccSpec : ChangeSpec := { name := "fnNumberSucc", fn := fun _ => fun
  | [d] => { results := [.lit (.bool true)], args := [d] }
  | _ => none }
def fnNumberSuccRow : OpenClaim := { program := "ytajjhldcjikkpaagreat", sum := "fb67884c97ffdb12046301a5c53b70b34590c7c712db17b0e4965d1089e3c843", func := "loop.example/depkernel/laws.FnNumberSucc", spec := "fnNumberSucc", unfollowed := true, recurses := true, apart := false }
def FnNumberSuccSaid : Prop := fnNumberSuccRow.holds Tryz.pinned (OpenSpec.ofChange fnNumberSuccSpec)

/-- ITS FALSE NEIGHBOUR: 'it returns false'. Refute it at one input. -/
def fnNumberSuccWrong : ChangeSpec := { name := "fnNumberSucc", fn := fun _ => fun
  | [d] => { results := [.lit (.bool false)], args := [d] }
  | _ => none }
def FnNumberSuccWrongFalsely : Prop := fnNumberSuccRow.holds Tryz.pinned (OpenSpec.ofChange fnNumberSuccWrong)

/-- 'laws.FnClosedNumber': WHATEVER THE INPUT: true; the input reads as it did. -/
def fnClosedNumberSpec : ChangeSpec := { name := "fnClosedNumber", fn := fun _ => fun
  | [d1, d2] => { results := [.lit (.bool true)], args := [d1, d2] }
  | _ => none }
def fnClosedNumberRow : OpenClaim := { program := "ytajjhldcjikkpaagreat", sum := "fb67884c97ffdb12046301a5c53b70b34590c7c712db17b0e4965d1089e3c843", func := "loop.example/depkernel/laws.FnClosedNumber", spec := "fnClosedNumber", unfollowed := true, recurses := true, apart := false }
def FnClosedNumberSaid : Prop := fnClosedNumberRow.holds Tryz.pinned (OpenSpec.ofChange fnClosedNumberSpec)

/-- ITS FALSE NEIGHBOUR: 'it returns false'. Refute it at one input. -/
def fnClosedNumberWrong : ChangeSpec := { name := "fnClosedNumber", fn := fun _ => fun
  | [d1, d2] => { results := [.lit (.bool false)], args := [d1, d2] }
  | _ => none }
def FnClosedNumberWrongFalsely : Prop := fnClosedNumberRow.holds Tryz.pinned (OpenSpec.ofChange fnClosedNumberWrong)

/- THE SECOND FORM. 'bulk': how many values and letters a reading holds, each counted each time it is reached (what is shared counts as often as it is met; a slice's spare places count too). A statement '..UptoSaid' is the law's where the arguments, and the package variables that the reading takes, are together of bulk at most 1048576: NARROWER than '..Said'. Prove '..Said' where nothing that the law and all that it calls make is longer than what came in: it says more and counts as full. Else prove '..UptoSaid'. A law counts once. -/
mutual
def uptoBulk {H : Type} : DataW H → Nat
  | .lit (.string bytes) => bytes.length + 1
  | .lit _ => 1
  | .nil => 1
  | .ptr d => uptoBulk d + 1
  | .slice elems spare => uptoBulkAll elems + uptoBulkAll spare + 1
  | .agg parts => uptoBulkAll parts + 1
  | .iface _ d => uptoBulk d + 1
  | .map entries => uptoBulkEntries entries + 1
  | .held _ => 1
def uptoBulkAll {H : Type} : List (DataW H) → Nat
  | [] => 0
  | d :: r => uptoBulk d + uptoBulkAll r
def uptoBulkEntries {H : Type} : List (Lit × DataW H) → Nat
  | [] => 0
  | x :: r => uptoBulkEntry x + uptoBulkEntries r
def uptoBulkEntry {H : Type} : Lit × DataW H → Nat
  | (.string bytes, d) => bytes.length + uptoBulk d + 1
  | (_, d) => uptoBulk d + 1
 end
def uptoSmall : (H : Type) → List (DataW H) → Bool := fun _ ds => decide (uptoBulkAll ds ≤ 1048576)
def OpenSpec.upto (s : _root_.Go.ChangeSpec) : _root_.Go.OpenSpec := { _root_.Go.OpenSpec.ofChange s with cond := some uptoSmall }

/-- 'laws.FnNumberSucc', WHERE WHAT IT READS IS OF BULK AT MOST 1048576: true; the input reads as it did. -/
def fnNumberSuccUptoRow : OpenClaim := { program := "ytajjhldcjikkpaagreat", sum := "fb67884c97ffdb12046301a5c53b70b34590c7c712db17b0e4965d1089e3c843", func := "loop.example/depkernel/laws.FnNumberSucc", spec := "fnNumberSucc", unfollowed := true, recurses := true, apart := false, narrowed := true }
def FnNumberSuccUptoSaid : Prop := fnNumberSuccUptoRow.holds Tryz.pinned (OpenSpec.upto fnNumberSuccSpec)

/-- 'laws.FnClosedNumber', WHERE WHAT IT READS IS OF BULK AT MOST 1048576: true; the input reads as it did. -/
def fnClosedNumberUptoRow : OpenClaim := { program := "ytajjhldcjikkpaagreat", sum := "fb67884c97ffdb12046301a5c53b70b34590c7c712db17b0e4965d1089e3c843", func := "loop.example/depkernel/laws.FnClosedNumber", spec := "fnClosedNumber", unfollowed := true, recurses := true, apart := false, narrowed := true }
def FnClosedNumberUptoSaid : Prop := fnClosedNumberUptoRow.holds Tryz.pinned (OpenSpec.upto fnClosedNumberSpec)

end Rows
end Go.Proofs.YtajjhldcjikkpaaGreat
