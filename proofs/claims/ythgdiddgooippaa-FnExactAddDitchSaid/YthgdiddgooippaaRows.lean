/-
  No cell of these rows narrows 'for every input' (looked for: loops, veiled, ifaces, maps, wideKeys, modest, calm, conditions, laid).
  DERIVED. THE GIVEN ROWS OF THIS SEAT. 8 by the template 'for every input the law returns true; each argument reads behind the call as it read before'; 0 by the template 'total and deterministic' (their statements: YthgdiddgooippaaTotals.lean).
  GIVEN WITH THE SEED: the statements are not yours to turn. If you find one false, say at which input.
  Laid BY PROGRAM, IN A SANDBOX (cutbox-rows.mjs): the forced cells as the released guide's own fill.sh prints them over the translation e25f6bebc66dd265… (all of the seat's roots in one cut). By AI agents, Wed Nov 11 2026. No macro, syntax, notation, axiom, sorry.
-/
import Derived.Test.YthgdiddgooippaaChecked
import GoSem.Claim
import GoSem.ClaimJoined
import GoSem.ClaimMapViews
import Derived.JoinedTies
import Derived.KernelRfl
namespace Go.Proofs.Ythgdiddgooippaa
/- THE CELL 'sum', in the pinned program and in every row, IS THE sha256 OF THE DUMP (.gsa) THAT YthgdiddgooippaaProg.lean LOADS. Nothing in Lean hashes anything: it is a label: what it is worth is what the hold of that sum in a sandbox is worth. -/
noncomputable def Try.pinned : Pinned := { name := "ythgdiddgooippaa", sum := "e25f6bebc66dd265cb5f3eaeaa268f3ab0355914321578c1ffdd4a662887b87f", checked := Try.checked }
namespace Rows
def none {H : Type} : Left H := { results := [], args := [] }

/-- 'laws.FnExactSameNet': WHATEVER THE INPUT: true; the input reads as it did. -/
def fnExactSameNetSpec : ChangeSpec := { name := "fnExactSameNet", fn := fun _ => fun
  | [d1, d2] => { results := [.lit (.bool true)], args := [d1, d2] }
  | _ => none }
def fnExactSameNetRow : OpenClaim := { program := "ythgdiddgooippaa", sum := "e25f6bebc66dd265cb5f3eaeaa268f3ab0355914321578c1ffdd4a662887b87f", func := "loop.example/g01032/laws.FnExactSameNet", spec := "fnExactSameNet", apart := false }
def FnExactSameNetSaid : Prop := fnExactSameNetRow.holds Try.pinned (OpenSpec.ofChange fnExactSameNetSpec)

/-- ITS FALSE NEIGHBOUR: 'it returns false'. Refute it at one input. -/
def fnExactSameNetWrong : ChangeSpec := { name := "fnExactSameNet", fn := fun _ => fun
  | [d1, d2] => { results := [.lit (.bool false)], args := [d1, d2] }
  | _ => none }
def FnExactSameNetWrongFalsely : Prop := fnExactSameNetRow.holds Try.pinned (OpenSpec.ofChange fnExactSameNetWrong)

/-- 'laws.FnExactValidNet': WHATEVER THE INPUT: true; the input reads as it did. -/
def fnExactValidNetSpec : ChangeSpec := { name := "fnExactValidNet", fn := fun _ => fun
  | [d] => { results := [.lit (.bool true)], args := [d] }
  | _ => none }
def fnExactValidNetRow : OpenClaim := { program := "ythgdiddgooippaa", sum := "e25f6bebc66dd265cb5f3eaeaa268f3ab0355914321578c1ffdd4a662887b87f", func := "loop.example/g01032/laws.FnExactValidNet", spec := "fnExactValidNet", unfollowed := true, recurses := true, apart := false }
def FnExactValidNetSaid : Prop := fnExactValidNetRow.holds Try.pinned (OpenSpec.ofChange fnExactValidNetSpec)

/-- ITS FALSE NEIGHBOUR: 'it returns false'. Refute it at one input. -/
def fnExactValidNetWrong : ChangeSpec := { name := "fnExactValidNet", fn := fun _ => fun
  | [d] => { results := [.lit (.bool false)], args := [d] }
  | _ => none }
def FnExactValidNetWrongFalsely : Prop := fnExactValidNetRow.holds Try.pinned (OpenSpec.ofChange fnExactValidNetWrong)

/-- 'laws.FnExactAddDitch': WHATEVER THE INPUT: true; the input reads as it did. -/
def fnExactAddDitchSpec : ChangeSpec := { name := "fnExactAddDitch", fn := fun _ => fun
  | [d1, d2] => { results := [.lit (.bool true)], args := [d1, d2] }
  | _ => none }
def fnExactAddDitchRow : OpenClaim := { program := "ythgdiddgooippaa", sum := "e25f6bebc66dd265cb5f3eaeaa268f3ab0355914321578c1ffdd4a662887b87f", func := "loop.example/g01032/laws.FnExactAddDitch", spec := "fnExactAddDitch", unfollowed := true, recurses := true, apart := false }
def FnExactAddDitchSaid : Prop := fnExactAddDitchRow.holds Try.pinned (OpenSpec.ofChange fnExactAddDitchSpec)

/-- ITS FALSE NEIGHBOUR: 'it returns false'. Refute it at one input. -/
def fnExactAddDitchWrong : ChangeSpec := { name := "fnExactAddDitch", fn := fun _ => fun
  | [d1, d2] => { results := [.lit (.bool false)], args := [d1, d2] }
  | _ => none }
def FnExactAddDitchWrongFalsely : Prop := fnExactAddDitchRow.holds Try.pinned (OpenSpec.ofChange fnExactAddDitchWrong)

/-- 'laws.FnExactCloseDitch': WHATEVER THE INPUT: true; the input reads as it did. -/
def fnExactCloseDitchSpec : ChangeSpec := { name := "fnExactCloseDitch", fn := fun _ => fun
  | [d1, d2] => { results := [.lit (.bool true)], args := [d1, d2] }
  | _ => none }
def fnExactCloseDitchRow : OpenClaim := { program := "ythgdiddgooippaa", sum := "e25f6bebc66dd265cb5f3eaeaa268f3ab0355914321578c1ffdd4a662887b87f", func := "loop.example/g01032/laws.FnExactCloseDitch", spec := "fnExactCloseDitch", unfollowed := true, recurses := true, apart := false }
def FnExactCloseDitchSaid : Prop := fnExactCloseDitchRow.holds Try.pinned (OpenSpec.ofChange fnExactCloseDitchSpec)

/-- ITS FALSE NEIGHBOUR: 'it returns false'. Refute it at one input. -/
def fnExactCloseDitchWrong : ChangeSpec := { name := "fnExactCloseDitch", fn := fun _ => fun
  | [d1, d2] => { results := [.lit (.bool false)], args := [d1, d2] }
  | _ => none }
def FnExactCloseDitchWrongFalsely : Prop := fnExactCloseDitchRow.holds Try.pinned (OpenSpec.ofChange fnExactCloseDitchWrong)

/-- 'laws.FnExactCutFlow': WHATEVER THE INPUT: true; the input reads as it did. -/
def fnExactCutFlowSpec : ChangeSpec := { name := "fnExactCutFlow", fn := fun _ => fun
  | [d1, d2] => { results := [.lit (.bool true)], args := [d1, d2] }
  | _ => none }
def fnExactCutFlowRow : OpenClaim := { program := "ythgdiddgooippaa", sum := "e25f6bebc66dd265cb5f3eaeaa268f3ab0355914321578c1ffdd4a662887b87f", func := "loop.example/g01032/laws.FnExactCutFlow", spec := "fnExactCutFlow", unfollowed := true, recurses := true, apart := false }
def FnExactCutFlowSaid : Prop := fnExactCutFlowRow.holds Try.pinned (OpenSpec.ofChange fnExactCutFlowSpec)

/-- ITS FALSE NEIGHBOUR: 'it returns false'. Refute it at one input. -/
def fnExactCutFlowWrong : ChangeSpec := { name := "fnExactCutFlow", fn := fun _ => fun
  | [d1, d2] => { results := [.lit (.bool false)], args := [d1, d2] }
  | _ => none }
def FnExactCutFlowWrongFalsely : Prop := fnExactCutFlowRow.holds Try.pinned (OpenSpec.ofChange fnExactCutFlowWrong)

/-- 'laws.FnExactIsFlow': WHATEVER THE INPUT: true; the input reads as it did. -/
def fnExactIsFlowSpec : ChangeSpec := { name := "fnExactIsFlow", fn := fun _ => fun
  | [d1, d2, d3] => { results := [.lit (.bool true)], args := [d1, d2, d3] }
  | _ => none }
def fnExactIsFlowRow : OpenClaim := { program := "ythgdiddgooippaa", sum := "e25f6bebc66dd265cb5f3eaeaa268f3ab0355914321578c1ffdd4a662887b87f", func := "loop.example/g01032/laws.FnExactIsFlow", spec := "fnExactIsFlow", unfollowed := true, recurses := true, apart := false }
def FnExactIsFlowSaid : Prop := fnExactIsFlowRow.holds Try.pinned (OpenSpec.ofChange fnExactIsFlowSpec)

/-- ITS FALSE NEIGHBOUR: 'it returns false'. Refute it at one input. -/
def fnExactIsFlowWrong : ChangeSpec := { name := "fnExactIsFlow", fn := fun _ => fun
  | [d1, d2, d3] => { results := [.lit (.bool false)], args := [d1, d2, d3] }
  | _ => none }
def FnExactIsFlowWrongFalsely : Prop := fnExactIsFlowRow.holds Try.pinned (OpenSpec.ofChange fnExactIsFlowWrong)

/-- 'laws.FnExactReachedFrom': WHATEVER THE INPUT: true; the input reads as it did. -/
def fnExactReachedFromSpec : ChangeSpec := { name := "fnExactReachedFrom", fn := fun _ => fun
  | [d1, d2] => { results := [.lit (.bool true)], args := [d1, d2] }
  | _ => none }
def fnExactReachedFromRow : OpenClaim := { program := "ythgdiddgooippaa", sum := "e25f6bebc66dd265cb5f3eaeaa268f3ab0355914321578c1ffdd4a662887b87f", func := "loop.example/g01032/laws.FnExactReachedFrom", spec := "fnExactReachedFrom", unfollowed := true, recurses := true, apart := false }
def FnExactReachedFromSaid : Prop := fnExactReachedFromRow.holds Try.pinned (OpenSpec.ofChange fnExactReachedFromSpec)

/-- ITS FALSE NEIGHBOUR: 'it returns false'. Refute it at one input. -/
def fnExactReachedFromWrong : ChangeSpec := { name := "fnExactReachedFrom", fn := fun _ => fun
  | [d1, d2] => { results := [.lit (.bool false)], args := [d1, d2] }
  | _ => none }
def FnExactReachedFromWrongFalsely : Prop := fnExactReachedFromRow.holds Try.pinned (OpenSpec.ofChange fnExactReachedFromWrong)

/-- 'laws.FnExactFlowProof': WHATEVER THE INPUT: true; the input reads as it did. -/
def fnExactFlowProofSpec : ChangeSpec := { name := "fnExactFlowProof", fn := fun _ => fun
  | [d1, d2, d3, d4] => { results := [.lit (.bool true)], args := [d1, d2, d3, d4] }
  | _ => none }
def fnExactFlowProofRow : OpenClaim := { program := "ythgdiddgooippaa", sum := "e25f6bebc66dd265cb5f3eaeaa268f3ab0355914321578c1ffdd4a662887b87f", func := "loop.example/g01032/laws.FnExactFlowProof", spec := "fnExactFlowProof", unfollowed := true, recurses := true, apart := false }
def FnExactFlowProofSaid : Prop := fnExactFlowProofRow.holds Try.pinned (OpenSpec.ofChange fnExactFlowProofSpec)

/-- ITS FALSE NEIGHBOUR: 'it returns false'. Refute it at one input. -/
def fnExactFlowProofWrong : ChangeSpec := { name := "fnExactFlowProof", fn := fun _ => fun
  | [d1, d2, d3, d4] => { results := [.lit (.bool false)], args := [d1, d2, d3, d4] }
  | _ => none }
def FnExactFlowProofWrongFalsely : Prop := fnExactFlowProofRow.holds Try.pinned (OpenSpec.ofChange fnExactFlowProofWrong)

/- THE SECOND FORM. 'bulk': how many values and letters a reading holds, each counted each time it is reached (what is shared counts as often as it is met; a slice's spare places count too). A statement '..UptoSaid' is the law's where the arguments, and the package variables that the reading takes, are together of bulk at most 1048576: NARROWER than '..Said'. Prove '..Said' where nothing that the law and all that it calls make is longer than what came in: it says more and counts as full. Else prove '..UptoSaid'. A law counts once. -/
mutual
def uptoBulk {H : Type} : DataW H → Nat
  | .lit (.string bytes) => bytes.length + 1
  | .lit _ => 1
  | .nil => 1
  | .ptr d => uptoBulk d + 1
  | .slice elems spare => uptoBulkAll elems + uptoBulkAll spare + 1
  | .agg parts => uptoBulkAll parts + 1
  | .iface _ d => uptoBulk d + 1
  | .map entries => uptoBulkEntries entries + 1
  | .held _ => 1
def uptoBulkAll {H : Type} : List (DataW H) → Nat
  | [] => 0
  | d :: r => uptoBulk d + uptoBulkAll r
def uptoBulkEntries {H : Type} : List (Lit × DataW H) → Nat
  | [] => 0
  | x :: r => uptoBulkEntry x + uptoBulkEntries r
def uptoBulkEntry {H : Type} : Lit × DataW H → Nat
  | (.string bytes, d) => bytes.length + uptoBulk d + 1
  | (_, d) => uptoBulk d + 1
 end
def uptoSmall : (H : Type) → List (DataW H) → Bool := fun _ ds => decide (uptoBulkAll ds ≤ 1048576)
def OpenSpec.upto (s : _root_.Go.ChangeSpec) : _root_.Go.OpenSpec := { _root_.Go.OpenSpec.ofChange s with cond := some uptoSmall }

/-- 'laws.FnExactSameNet', WHERE WHAT IT READS IS OF BULK AT MOST 1048576: true; the input reads as it did. -/
def fnExactSameNetUptoRow : OpenClaim := { program := "ythgdiddgooippaa", sum := "e25f6bebc66dd265cb5f3eaeaa268f3ab0355914321578c1ffdd4a662887b87f", func := "loop.example/g01032/laws.FnExactSameNet", spec := "fnExactSameNet", apart := false, narrowed := true }
def FnExactSameNetUptoSaid : Prop := fnExactSameNetUptoRow.holds Try.pinned (OpenSpec.upto fnExactSameNetSpec)

/-- 'laws.FnExactValidNet', WHERE WHAT IT READS IS OF BULK AT MOST 1048576: true; the input reads as it did. -/
def fnExactValidNetUptoRow : OpenClaim := { program := "ythgdiddgooippaa", sum := "e25f6bebc66dd265cb5f3eaeaa268f3ab0355914321578c1ffdd4a662887b87f", func := "loop.example/g01032/laws.FnExactValidNet", spec := "fnExactValidNet", unfollowed := true, recurses := true, apart := false, narrowed := true }
def FnExactValidNetUptoSaid : Prop := fnExactValidNetUptoRow.holds Try.pinned (OpenSpec.upto fnExactValidNetSpec)

/-- 'laws.FnExactAddDitch', WHERE WHAT IT READS IS OF BULK AT MOST 1048576: true; the input reads as it did. -/
def fnExactAddDitchUptoRow : OpenClaim := { program := "ythgdiddgooippaa", sum := "e25f6bebc66dd265cb5f3eaeaa268f3ab0355914321578c1ffdd4a662887b87f", func := "loop.example/g01032/laws.FnExactAddDitch", spec := "fnExactAddDitch", unfollowed := true, recurses := true, apart := false, narrowed := true }
def FnExactAddDitchUptoSaid : Prop := fnExactAddDitchUptoRow.holds Try.pinned (OpenSpec.upto fnExactAddDitchSpec)

/-- 'laws.FnExactCloseDitch', WHERE WHAT IT READS IS OF BULK AT MOST 1048576: true; the input reads as it did. -/
def fnExactCloseDitchUptoRow : OpenClaim := { program := "ythgdiddgooippaa", sum := "e25f6bebc66dd265cb5f3eaeaa268f3ab0355914321578c1ffdd4a662887b87f", func := "loop.example/g01032/laws.FnExactCloseDitch", spec := "fnExactCloseDitch", unfollowed := true, recurses := true, apart := false, narrowed := true }
def FnExactCloseDitchUptoSaid : Prop := fnExactCloseDitchUptoRow.holds Try.pinned (OpenSpec.upto fnExactCloseDitchSpec)

/-- 'laws.FnExactCutFlow', WHERE WHAT IT READS IS OF BULK AT MOST 1048576: true; the input reads as it did. -/
def fnExactCutFlowUptoRow : OpenClaim := { program := "ythgdiddgooippaa", sum := "e25f6bebc66dd265cb5f3eaeaa268f3ab0355914321578c1ffdd4a662887b87f", func := "loop.example/g01032/laws.FnExactCutFlow", spec := "fnExactCutFlow", unfollowed := true, recurses := true, apart := false, narrowed := true }
def FnExactCutFlowUptoSaid : Prop := fnExactCutFlowUptoRow.holds Try.pinned (OpenSpec.upto fnExactCutFlowSpec)

/-- 'laws.FnExactIsFlow', WHERE WHAT IT READS IS OF BULK AT MOST 1048576: true; the input reads as it did. -/
def fnExactIsFlowUptoRow : OpenClaim := { program := "ythgdiddgooippaa", sum := "e25f6bebc66dd265cb5f3eaeaa268f3ab0355914321578c1ffdd4a662887b87f", func := "loop.example/g01032/laws.FnExactIsFlow", spec := "fnExactIsFlow", unfollowed := true, recurses := true, apart := false, narrowed := true }
def FnExactIsFlowUptoSaid : Prop := fnExactIsFlowUptoRow.holds Try.pinned (OpenSpec.upto fnExactIsFlowSpec)

/-- 'laws.FnExactReachedFrom', WHERE WHAT IT READS IS OF BULK AT MOST 1048576: true; the input reads as it did. -/
def fnExactReachedFromUptoRow : OpenClaim := { program := "ythgdiddgooippaa", sum := "e25f6bebc66dd265cb5f3eaeaa268f3ab0355914321578c1ffdd4a662887b87f", func := "loop.example/g01032/laws.FnExactReachedFrom", spec := "fnExactReachedFrom", unfollowed := true, recurses := true, apart := false, narrowed := true }
def FnExactReachedFromUptoSaid : Prop := fnExactReachedFromUptoRow.holds Try.pinned (OpenSpec.upto fnExactReachedFromSpec)

/-- 'laws.FnExactFlowProof', WHERE WHAT IT READS IS OF BULK AT MOST 1048576: true; the input reads as it did. -/
def fnExactFlowProofUptoRow : OpenClaim := { program := "ythgdiddgooippaa", sum := "e25f6bebc66dd265cb5f3eaeaa268f3ab0355914321578c1ffdd4a662887b87f", func := "loop.example/g01032/laws.FnExactFlowProof", spec := "fnExactFlowProof", unfollowed := true, recurses := true, apart := false, narrowed := true }
def FnExactFlowProofUptoSaid : Prop := fnExactFlowProofUptoRow.holds Try.pinned (OpenSpec.upto fnExactFlowProofSpec)

end Rows
end Go.Proofs.Ythgdiddgooippaa
