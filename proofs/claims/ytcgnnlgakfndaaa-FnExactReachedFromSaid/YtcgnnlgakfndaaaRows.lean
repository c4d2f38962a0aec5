/-
  No cell of these rows narrows 'for every input' (looked for: loops, veiled, ifaces, maps, wideKeys, modest, calm, conditions, laid).
  DERIVED. THE GIVEN ROWS OF THIS SEAT. 4 by the template 'for every input the law returns true; each argument reads behind the call as it read before'; 0 by the template 'total and deterministic' (their statements: YtcgnnlgakfndaaaTotals.lean).
  GIVEN WITH THE SEED: the statements are not yours to turn. If you find one false, say at which input.
  Laid BY PROGRAM, IN A SANDBOX (cutbox-rows.mjs): the forced cells as the released guide's own fill.sh prints them over the translation 3fb33cd3fb13306e… (all of the seat's roots in one cut). By AI agents, Wed Nov 11 2026. No macro, syntax, notation, axiom, sorry.
-/
import Derived.Test.YtcgnnlgakfndaaaChecked
import GoSem.Claim
import GoSem.ClaimJoined
import GoSem.ClaimMapViews
import Derived.JoinedTies
import Derived.KernelRfl
namespace Go.Proofs.Ytcgnnlgakfndaaa
/- THE CELL 'sum', in the pinned program and in every row, IS THE sha256 OF THE DUMP (.gsa) THAT YtcgnnlgakfndaaaProg.lean LOADS. Nothing in Lean hashes anything: it is a label: what it is worth is what the hold of that sum in a sandbox is worth. -/
noncomputable def Try.pinned : Pinned := { name := "ytcgnnlgakfndaaa", sum := "3fb33cd3fb13306ee34a83ee9cc7059a75ca2de527539f278036f50d2e4f413d", checked := Try.checked }
namespace Rows
def none {H : Type} : Left H := { results := [], args := [] }

/-- 'laws.FnExactLongestDry': WHATEVER THE INPUT: true; the input reads as it did. -/
def fnExactLongestDrySpec : ChangeSpec := { name := "fnExactLongestDry", fn := fun _ => fun
  | [d] => { results := [.lit (.bool true)], args := [d] }
  | _ => none }
def fnExactLongestDryRow : OpenClaim := { program := "ytcgnnlgakfndaaa", sum := "3fb33cd3fb13306ee34a83ee9cc7059a75ca2de527539f278036f50d2e4f413d", func := "loop.example/g01032/laws.FnExactLongestDry", spec := "fnExactLongestDry", unfollowed := true, recurses := true, apart := false }
def FnExactLongestDrySaid : Prop := fnExactLongestDryRow.holds Try.pinned (OpenSpec.ofChange fnExactLongestDrySpec)

/-- ITS FALSE NEIGHBOUR: 'it returns false'. Refute it at one input. -/
def fnExactLongestDryWrong : ChangeSpec := { name := "fnExactLongestDry", fn := fun _ => fun
  | [d] => { results := [.lit (.bool false)], args := [d] }
  | _ => none }
def FnExactLongestDryWrongFalsely : Prop := fnExactLongestDryRow.holds Try.pinned (OpenSpec.ofChange fnExactLongestDryWrong)

/-- 'laws.FnExactCurveOfLand': WHATEVER THE INPUT: true; the input reads as it did. -/
def fnExactCurveOfLandSpec : ChangeSpec := { name := "fnExactCurveOfLand", fn := fun _ => fun
  | [d1, d2, d3, d4] => { results := [.lit (.bool true)], args := [d1, d2, d3, d4] }
  | _ => none }
def fnExactCurveOfLandRow : OpenClaim := { program := "ytcgnnlgakfndaaa", sum := "3fb33cd3fb13306ee34a83ee9cc7059a75ca2de527539f278036f50d2e4f413d", func := "loop.example/g01032/laws.FnExactCurveOfLand", spec := "fnExactCurveOfLand", unfollowed := true, recurses := true, apart := false }
def FnExactCurveOfLandSaid : Prop := fnExactCurveOfLandRow.holds Try.pinned (OpenSpec.ofChange fnExactCurveOfLandSpec)

/-- ITS FALSE NEIGHBOUR: 'it returns false'. Refute it at one input. -/
def fnExactCurveOfLandWrong : ChangeSpec := { name := "fnExactCurveOfLand", fn := fun _ => fun
  | [d1, d2, d3, d4] => { results := [.lit (.bool false)], args := [d1, d2, d3, d4] }
  | _ => none }
def FnExactCurveOfLandWrongFalsely : Prop := fnExactCurveOfLandRow.holds Try.pinned (OpenSpec.ofChange fnExactCurveOfLandWrong)

/-- 'laws.FnExactJoinCurves': WHATEVER THE INPUT: true; the input reads as it did. -/
def fnExactJoinCurvesSpec : ChangeSpec := { name := "fnExactJoinCurves", fn := fun _ => fun
  | [d1, d2] => { results := [.lit (.bool true)], args := [d1, d2] }
  | _ => none }
def fnExactJoinCurvesRow : OpenClaim := { program := "ytcgnnlgakfndaaa", sum := "3fb33cd3fb13306ee34a83ee9cc7059a75ca2de527539f278036f50d2e4f413d", func := "loop.example/g01032/laws.FnExactJoinCurves", spec := "fnExactJoinCurves", apart := false }
def FnExactJoinCurvesSaid : Prop := fnExactJoinCurvesRow.holds Try.pinned (OpenSpec.ofChange fnExactJoinCurvesSpec)

/-- ITS FALSE NEIGHBOUR: 'it returns false'. Refute it at one input. -/
def fnExactJoinCurvesWrong : ChangeSpec := { name := "fnExactJoinCurves", fn := fun _ => fun
  | [d1, d2] => { results := [.lit (.bool false)], args := [d1, d2] }
  | _ => none }
def FnExactJoinCurvesWrongFalsely : Prop := fnExactJoinCurvesRow.holds Try.pinned (OpenSpec.ofChange fnExactJoinCurvesWrong)

/-- 'laws.FnExactReachedFrom': WHATEVER THE INPUT: true; the input reads as it did. -/
def fnExactReachedFromSpec : ChangeSpec := { name := "fnExactReachedFrom", fn := fun _ => fun
  | [d1, d2] => { results := [.lit (.bool true)], args := [d1, d2] }
  | _ => none }
def fnExactReachedFromRow : OpenClaim := { program := "ytcgnnlgakfndaaa", sum := "3fb33cd3fb13306ee34a83ee9cc7059a75ca2de527539f278036f50d2e4f413d", func := "loop.example/g01032/laws.FnExactReachedFrom", spec := "fnExactReachedFrom", unfollowed := true, recurses := true, apart := false }
def FnExactReachedFromSaid : Prop := fnExactReachedFromRow.holds Try.pinned (OpenSpec.ofChange fnExactReachedFromSpec)

/-- ITS FALSE NEIGHBOUR: 'it returns false'. Refute it at one input. -/
def fnExactReachedFromWrong : ChangeSpec := { name := "fnExactReachedFrom", fn := fun _ => fun
  | [d1, d2] => { results := [.lit (.bool false)], args := [d1, d2] }
  | _ => none }
def FnExactReachedFromWrongFalsely : Prop := fnExactReachedFromRow.holds Try.pinned (OpenSpec.ofChange fnExactReachedFromWrong)

/- THE SECOND FORM. 'bulk': how many values and letters a reading holds, each counted each time it is reached (what is shared counts as often as it is met; a slice's spare places count too). A statement '..UptoSaid' is the law's where the arguments, and the package variables that the reading takes, are together of bulk at most 1048576: NARROWER than '..Said'. Prove '..Said' where nothing that the law and all that it calls make is longer than what came in: it says more and counts as full. Else prove '..UptoSaid'. A law counts once. -/
mutual
def uptoBulk {H : Type} : DataW H → Nat
  | .lit (.string bytes) => bytes.length + 1
  | .lit _ => 1
  | .nil => 1
  | .ptr d => uptoBulk d + 1
  | .slice elems spare => uptoBulkAll elems + uptoBulkAll spare + 1
  | .agg parts => uptoBulkAll parts + 1
  | .iface _ d => uptoBulk d + 1
  | .map entries => uptoBulkEntries entries + 1
  | .held _ => 1
def uptoBulkAll {H : Type} : List (DataW H) → Nat
  | [] => 0
  | d :: r => uptoBulk d + uptoBulkAll r
def uptoBulkEntries {H : Type} : List (Lit × DataW H) → Nat
  | [] => 0
  | x :: r => uptoBulkEntry x + uptoBulkEntries r
def uptoBulkEntry {H : Type} : Lit × DataW H → Nat
  | (.string bytes, d) => bytes.length + uptoBulk d + 1
  | (_, d) => uptoBulk d + 1
 end
def uptoSmall : (H : Type) → List (DataW H) → Bool := fun _ ds => decide (uptoBulkAll ds ≤ 1048576)
def OpenSpec.upto (s : _root_.Go.ChangeSpec) : _root_.Go.OpenSpec := { _root_.Go.OpenSpec.ofChange s with cond := some uptoSmall }

/-- 'laws.FnExactLongestDry', WHERE WHAT IT READS IS OF BULK AT MOST 1048576: true; the input reads as it did. -/
def fnExactLongestDryUptoRow : OpenClaim := { program := "ytcgnnlgakfndaaa", sum := "3fb33cd3fb13306ee34a83ee9cc7059a75ca2de527539f278036f50d2e4f413d", func := "loop.example/g01032/laws.FnExactLongestDry", spec := "fnExactLongestDry", unfollowed := true, recurses := true, apart := false, narrowed := true }
def FnExactLongestDryUptoSaid : Prop := fnExactLongestDryUptoRow.holds Try.pinned (OpenSpec.upto fnExactLongestDrySpec)

/-- 'laws.FnExactCurveOfLand', WHERE WHAT IT READS IS OF BULK AT MOST 1048576: true; the input reads as it did. -/
def fnExactCurveOfLandUptoRow : OpenClaim := { program := "ytcgnnlgakfndaaa", sum := "3fb33cd3fb13306ee34a83ee9cc7059a75ca2de527539f278036f50d2e4f413d", func := "loop.example/g01032/laws.FnExactCurveOfLand", spec := "fnExactCurveOfLand", unfollowed := true, recurses := true, apart := false, narrowed := true }
def FnExactCurveOfLandUptoSaid : Prop := fnExactCurveOfLandUptoRow.holds Try.pinned (OpenSpec.upto fnExactCurveOfLandSpec)

/-- 'laws.FnExactJoinCurves', WHERE WHAT IT READS IS OF BULK AT MOST 1048576: true; the input reads as it did. -/
def fnExactJoinCurvesUptoRow : OpenClaim := { program := "ytcgnnlgakfndaaa", sum := "3fb33cd3fb13306ee34a83ee9cc7059a75ca2de527539f278036f50d2e4f413d", func := "loop.example/g01032/laws.FnExactJoinCurves", spec := "fnExactJoinCurves", apart := false, narrowed := true }
def FnExactJoinCurvesUptoSaid : Prop := fnExactJoinCurvesUptoRow.holds Try.pinned (OpenSpec.upto fnExactJoinCurvesSpec)

/-- 'laws.FnExactReachedFrom', WHERE WHAT IT READS IS OF BULK AT MOST 1048576: true; the input reads as it did. -/
def fnExactReachedFromUptoRow : OpenClaim := { program := "ytcgnnlgakfndaaa", sum := "3fb33cd3fb13306ee34a83ee9cc7059a75ca2de527539f278036f50d2e4f413d", func := "loop.example/g01032/laws.FnExactReachedFrom", spec := "fnExactReachedFrom", unfollowed := true, recurses := true, apart := false, narrowed := true }
def FnExactReachedFromUptoSaid : Prop := fnExactReachedFromUptoRow.holds Try.pinned (OpenSpec.upto fnExactReachedFromSpec)

end Rows
end Go.Proofs.Ytcgnnlgakfndaaa
