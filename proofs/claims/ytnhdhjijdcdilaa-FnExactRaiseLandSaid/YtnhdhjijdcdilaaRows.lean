/-
  No cell of these rows narrows 'for every input' (looked for: loops, veiled, ifaces, maps, wideKeys, modest, calm, conditions, laid).
  DERIVED. THE GIVEN ROWS OF THIS SEAT. 11 by the template 'for every input the law returns true; each argument reads behind the call as it read before'; 0 by the template 'total and deterministic' (their statements: YtnhdhjijdcdilaaTotals.lean).
  GIVEN WITH THE SEED: the statements are not yours to turn. If you find one false, say at which input.
  Laid BY PROGRAM, IN A SANDBOX (cutbox-rows.mjs): the forced cells as the released guide's own fill.sh prints them over the translation d174bfc92625e5de… (all of the seat's roots in one cut). By AI agents, Wed Nov 11 2026. No macro, syntax, notation, axiom, sorry.
-/
import Derived.Test.YtnhdhjijdcdilaaChecked
import GoSem.Claim
import GoSem.ClaimJoined
import GoSem.ClaimMapViews
import Derived.JoinedTies
import Derived.KernelRfl
namespace Go.Proofs.Ytnhdhjijdcdilaa
/- THE CELL 'sum', in the pinned program and in every row, IS THE sha256 OF THE DUMP (.gsa) THAT YtnhdhjijdcdilaaProg.lean LOADS. Nothing in Lean hashes anything: it is a label: what it is worth is what the hold of that sum in a sandbox is worth. -/
noncomputable def Try.pinned : Pinned := { name := "ytnhdhjijdcdilaa", sum := "d174bfc92625e5dea5470acefa2786d9eee5114daf255187ecf83cd8c9d4ba15", checked := Try.checked }
namespace Rows
def none {H : Type} : Left H := { results := [], args := [] }

/-- 'laws.FnExactIsName': WHATEVER THE INPUT: true; the input reads as it did. -/
def fnExactIsNameSpec : ChangeSpec := { name := "fnExactIsName", fn := fun _ => fun
  | [d] => { results := [.lit (.bool true)], args := [d] }
  | _ => none }
def fnExactIsNameRow : OpenClaim := { program := "ytnhdhjijdcdilaa", sum := "d174bfc92625e5dea5470acefa2786d9eee5114daf255187ecf83cd8c9d4ba15", func := "loop.example/g01032/laws.FnExactIsName", spec := "fnExactIsName", apart := false }
def FnExactIsNameSaid : Prop := fnExactIsNameRow.holds Try.pinned (OpenSpec.ofChange fnExactIsNameSpec)

/-- ITS FALSE NEIGHBOUR: 'it returns false'. Refute it at one input. -/
def fnExactIsNameWrong : ChangeSpec := { name := "fnExactIsName", fn := fun _ => fun
  | [d] => { results := [.lit (.bool false)], args := [d] }
  | _ => none }
def FnExactIsNameWrongFalsely : Prop := fnExactIsNameRow.holds Try.pinned (OpenSpec.ofChange fnExactIsNameWrong)

/-- 'laws.FnExactLongestDry': WHATEVER THE INPUT: true; the input reads as it did. -/
def fnExactLongestDrySpec : ChangeSpec := { name := "fnExactLongestDry", fn := fun _ => fun
  | [d] => { results := [.lit (.bool true)], args := [d] }
  | _ => none }
def fnExactLongestDryRow : OpenClaim := { program := "ytnhdhjijdcdilaa", sum := "d174bfc92625e5dea5470acefa2786d9eee5114daf255187ecf83cd8c9d4ba15", func := "loop.example/g01032/laws.FnExactLongestDry", spec := "fnExactLongestDry", unfollowed := true, recurses := true, apart := false }
def FnExactLongestDrySaid : Prop := fnExactLongestDryRow.holds Try.pinned (OpenSpec.ofChange fnExactLongestDrySpec)

/-- ITS FALSE NEIGHBOUR: 'it returns false'. Refute it at one input. -/
def fnExactLongestDryWrong : ChangeSpec := { name := "fnExactLongestDry", fn := fun _ => fun
  | [d] => { results := [.lit (.bool false)], args := [d] }
  | _ => none }
def FnExactLongestDryWrongFalsely : Prop := fnExactLongestDryRow.holds Try.pinned (OpenSpec.ofChange fnExactLongestDryWrong)

/-- 'laws.FnExactSameCurve': WHATEVER THE INPUT: true; the input reads as it did. -/
def fnExactSameCurveSpec : ChangeSpec := { name := "fnExactSameCurve", fn := fun _ => fun
  | [d1, d2] => { results := [.lit (.bool true)], args := [d1, d2] }
  | _ => none }
def fnExactSameCurveRow : OpenClaim := { program := "ytnhdhjijdcdilaa", sum := "d174bfc92625e5dea5470acefa2786d9eee5114daf255187ecf83cd8c9d4ba15", func := "loop.example/g01032/laws.FnExactSameCurve", spec := "fnExactSameCurve", apart := false }
def FnExactSameCurveSaid : Prop := fnExactSameCurveRow.holds Try.pinned (OpenSpec.ofChange fnExactSameCurveSpec)

/-- ITS FALSE NEIGHBOUR: 'it returns false'. Refute it at one input. -/
def fnExactSameCurveWrong : ChangeSpec := { name := "fnExactSameCurve", fn := fun _ => fun
  | [d1, d2] => { results := [.lit (.bool false)], args := [d1, d2] }
  | _ => none }
def FnExactSameCurveWrongFalsely : Prop := fnExactSameCurveRow.holds Try.pinned (OpenSpec.ofChange fnExactSameCurveWrong)

/-- 'laws.FnExactSameLand': WHATEVER THE INPUT: true; the input reads as it did. -/
def fnExactSameLandSpec : ChangeSpec := { name := "fnExactSameLand", fn := fun _ => fun
  | [d1, d2] => { results := [.lit (.bool true)], args := [d1, d2] }
  | _ => none }
def fnExactSameLandRow : OpenClaim := { program := "ytnhdhjijdcdilaa", sum := "d174bfc92625e5dea5470acefa2786d9eee5114daf255187ecf83cd8c9d4ba15", func := "loop.example/g01032/laws.FnExactSameLand", spec := "fnExactSameLand", apart := false }
def FnExactSameLandSaid : Prop := fnExactSameLandRow.holds Try.pinned (OpenSpec.ofChange fnExactSameLandSpec)

/-- ITS FALSE NEIGHBOUR: 'it returns false'. Refute it at one input. -/
def fnExactSameLandWrong : ChangeSpec := { name := "fnExactSameLand", fn := fun _ => fun
  | [d1, d2] => { results := [.lit (.bool false)], args := [d1, d2] }
  | _ => none }
def FnExactSameLandWrongFalsely : Prop := fnExactSameLandRow.holds Try.pinned (OpenSpec.ofChange fnExactSameLandWrong)

/-- 'laws.FnExactLevelFor': WHATEVER THE INPUT: true; the input reads as it did. -/
def fnExactLevelForSpec : ChangeSpec := { name := "fnExactLevelFor", fn := fun _ => fun
  | [d1, d2] => { results := [.lit (.bool true)], args := [d1, d2] }
  | _ => none }
def fnExactLevelForRow : OpenClaim := { program := "ytnhdhjijdcdilaa", sum := "d174bfc92625e5dea5470acefa2786d9eee5114daf255187ecf83cd8c9d4ba15", func := "loop.example/g01032/laws.FnExactLevelFor", spec := "fnExactLevelFor", unfollowed := true, recurses := true, apart := false }
def FnExactLevelForSaid : Prop := fnExactLevelForRow.holds Try.pinned (OpenSpec.ofChange fnExactLevelForSpec)

/-- ITS FALSE NEIGHBOUR: 'it returns false'. Refute it at one input. -/
def fnExactLevelForWrong : ChangeSpec := { name := "fnExactLevelFor", fn := fun _ => fun
  | [d1, d2] => { results := [.lit (.bool false)], args := [d1, d2] }
  | _ => none }
def FnExactLevelForWrongFalsely : Prop := fnExactLevelForRow.holds Try.pinned (OpenSpec.ofChange fnExactLevelForWrong)

/-- 'laws.FnExactLowestCells': WHATEVER THE INPUT: true; the input reads as it did. -/
def fnExactLowestCellsSpec : ChangeSpec := { name := "fnExactLowestCells", fn := fun _ => fun
  | [d] => { results := [.lit (.bool true)], args := [d] }
  | _ => none }
def fnExactLowestCellsRow : OpenClaim := { program := "ytnhdhjijdcdilaa", sum := "d174bfc92625e5dea5470acefa2786d9eee5114daf255187ecf83cd8c9d4ba15", func := "loop.example/g01032/laws.FnExactLowestCells", spec := "fnExactLowestCells", unfollowed := true, recurses := true, apart := false }
def FnExactLowestCellsSaid : Prop := fnExactLowestCellsRow.holds Try.pinned (OpenSpec.ofChange fnExactLowestCellsSpec)

/-- ITS FALSE NEIGHBOUR: 'it returns false'. Refute it at one input. -/
def fnExactLowestCellsWrong : ChangeSpec := { name := "fnExactLowestCells", fn := fun _ => fun
  | [d] => { results := [.lit (.bool false)], args := [d] }
  | _ => none }
def FnExactLowestCellsWrongFalsely : Prop := fnExactLowestCellsRow.holds Try.pinned (OpenSpec.ofChange fnExactLowestCellsWrong)

/-- 'laws.FnExactSetHeight': WHATEVER THE INPUT: true; the input reads as it did. -/
def fnExactSetHeightSpec : ChangeSpec := { name := "fnExactSetHeight", fn := fun _ => fun
  | [d1, d2, d3, d4] => { results := [.lit (.bool true)], args := [d1, d2, d3, d4] }
  | _ => none }
def fnExactSetHeightRow : OpenClaim := { program := "ytnhdhjijdcdilaa", sum := "d174bfc92625e5dea5470acefa2786d9eee5114daf255187ecf83cd8c9d4ba15", func := "loop.example/g01032/laws.FnExactSetHeight", spec := "fnExactSetHeight", unfollowed := true, recurses := true, apart := false }
def FnExactSetHeightSaid : Prop := fnExactSetHeightRow.holds Try.pinned (OpenSpec.ofChange fnExactSetHeightSpec)

/-- ITS FALSE NEIGHBOUR: 'it returns false'. Refute it at one input. -/
def fnExactSetHeightWrong : ChangeSpec := { name := "fnExactSetHeight", fn := fun _ => fun
  | [d1, d2, d3, d4] => { results := [.lit (.bool false)], args := [d1, d2, d3, d4] }
  | _ => none }
def FnExactSetHeightWrongFalsely : Prop := fnExactSetHeightRow.holds Try.pinned (OpenSpec.ofChange fnExactSetHeightWrong)

/-- 'laws.FnExactRaiseLand': WHATEVER THE INPUT: true; the input reads as it did. -/
def fnExactRaiseLandSpec : ChangeSpec := { name := "fnExactRaiseLand", fn := fun _ => fun
  | [d1, d2] => { results := [.lit (.bool true)], args := [d1, d2] }
  | _ => none }
def fnExactRaiseLandRow : OpenClaim := { program := "ytnhdhjijdcdilaa", sum := "d174bfc92625e5dea5470acefa2786d9eee5114daf255187ecf83cd8c9d4ba15", func := "loop.example/g01032/laws.FnExactRaiseLand", spec := "fnExactRaiseLand", unfollowed := true, recurses := true, apart := false }
def FnExactRaiseLandSaid : Prop := fnExactRaiseLandRow.holds Try.pinned (OpenSpec.ofChange fnExactRaiseLandSpec)

/-- ITS FALSE NEIGHBOUR: 'it returns false'. Refute it at one input. -/
def fnExactRaiseLandWrong : ChangeSpec := { name := "fnExactRaiseLand", fn := fun _ => fun
  | [d1, d2] => { results := [.lit (.bool false)], args := [d1, d2] }
  | _ => none }
def FnExactRaiseLandWrongFalsely : Prop := fnExactRaiseLandRow.holds Try.pinned (OpenSpec.ofChange fnExactRaiseLandWrong)

/-- 'laws.FnExactCurveOfLand': WHATEVER THE INPUT: true; the input reads as it did. -/
def fnExactCurveOfLandSpec : ChangeSpec := { name := "fnExactCurveOfLand", fn := fun _ => fun
  | [d1, d2, d3, d4] => { results := [.lit (.bool true)], args := [d1, d2, d3, d4] }
  | _ => none }
def fnExactCurveOfLandRow : OpenClaim := { program := "ytnhdhjijdcdilaa", sum := "d174bfc92625e5dea5470acefa2786d9eee5114daf255187ecf83cd8c9d4ba15", func := "loop.example/g01032/laws.FnExactCurveOfLand", spec := "fnExactCurveOfLand", unfollowed := true, recurses := true, apart := false }
def FnExactCurveOfLandSaid : Prop := fnExactCurveOfLandRow.holds Try.pinned (OpenSpec.ofChange fnExactCurveOfLandSpec)

/-- ITS FALSE NEIGHBOUR: 'it returns false'. Refute it at one input. -/
def fnExactCurveOfLandWrong : ChangeSpec := { name := "fnExactCurveOfLand", fn := fun _ => fun
  | [d1, d2, d3, d4] => { results := [.lit (.bool false)], args := [d1, d2, d3, d4] }
  | _ => none }
def FnExactCurveOfLandWrongFalsely : Prop := fnExactCurveOfLandRow.holds Try.pinned (OpenSpec.ofChange fnExactCurveOfLandWrong)

/-- 'laws.FnExactAreaAt': WHATEVER THE INPUT: true; the input reads as it did. -/
def fnExactAreaAtSpec : ChangeSpec := { name := "fnExactAreaAt", fn := fun _ => fun
  | [d1, d2] => { results := [.lit (.bool true)], args := [d1, d2] }
  | _ => none }
def fnExactAreaAtRow : OpenClaim := { program := "ytnhdhjijdcdilaa", sum := "d174bfc92625e5dea5470acefa2786d9eee5114daf255187ecf83cd8c9d4ba15", func := "loop.example/g01032/laws.FnExactAreaAt", spec := "fnExactAreaAt", apart := false }
def FnExactAreaAtSaid : Prop := fnExactAreaAtRow.holds Try.pinned (OpenSpec.ofChange fnExactAreaAtSpec)

/-- ITS FALSE NEIGHBOUR: 'it returns false'. Refute it at one input. -/
def fnExactAreaAtWrong : ChangeSpec := { name := "fnExactAreaAt", fn := fun _ => fun
  | [d1, d2] => { results := [.lit (.bool false)], args := [d1, d2] }
  | _ => none }
def FnExactAreaAtWrongFalsely : Prop := fnExactAreaAtRow.holds Try.pinned (OpenSpec.ofChange fnExactAreaAtWrong)

/-- 'laws.FnExactJoinCurves': WHATEVER THE INPUT: true; the input reads as it did. -/
def fnExactJoinCurvesSpec : ChangeSpec := { name := "fnExactJoinCurves", fn := fun _ => fun
  | [d1, d2] => { results := [.lit (.bool true)], args := [d1, d2] }
  | _ => none }
def fnExactJoinCurvesRow : OpenClaim := { program := "ytnhdhjijdcdilaa", sum := "d174bfc92625e5dea5470acefa2786d9eee5114daf255187ecf83cd8c9d4ba15", func := "loop.example/g01032/laws.FnExactJoinCurves", spec := "fnExactJoinCurves", apart := false }
def FnExactJoinCurvesSaid : Prop := fnExactJoinCurvesRow.holds Try.pinned (OpenSpec.ofChange fnExactJoinCurvesSpec)

/-- ITS FALSE NEIGHBOUR: 'it returns false'. Refute it at one input. -/
def fnExactJoinCurvesWrong : ChangeSpec := { name := "fnExactJoinCurves", fn := fun _ => fun
  | [d1, d2] => { results := [.lit (.bool false)], args := [d1, d2] }
  | _ => none }
def FnExactJoinCurvesWrongFalsely : Prop := fnExactJoinCurvesRow.holds Try.pinned (OpenSpec.ofChange fnExactJoinCurvesWrong)

/- THE SECOND FORM. 'bulk': how many values and letters a reading holds, each counted each time it is reached (what is shared counts as often as it is met; a slice's spare places count too). A statement '..UptoSaid' is the law's where the arguments, and the package variables that the reading takes, are together of bulk at most 1048576: NARROWER than '..Said'. Prove '..Said' where nothing that the law and all that it calls make is longer than what came in: it says more and counts as full. Else prove '..UptoSaid'. A law counts once. -/
mutual
def uptoBulk {H : Type} : DataW H → Nat
  | .lit (.string bytes) => bytes.length + 1
  | .lit _ => 1
  | .nil => 1
  | .ptr d => uptoBulk d + 1
  | .slice elems spare => uptoBulkAll elems + uptoBulkAll spare + 1
  | .agg parts => uptoBulkAll parts + 1
  | .iface _ d => uptoBulk d + 1
  | .map entries => uptoBulkEntries entries + 1
  | .held _ => 1
def uptoBulkAll {H : Type} : List (DataW H) → Nat
  | [] => 0
  | d :: r => uptoBulk d + uptoBulkAll r
def uptoBulkEntries {H : Type} : List (Lit × DataW H) → Nat
  | [] => 0
  | x :: r => uptoBulkEntry x + uptoBulkEntries r
def uptoBulkEntry {H : Type} : Lit × DataW H → Nat
  | (.string bytes, d) => bytes.length + uptoBulk d + 1
  | (_, d) => uptoBulk d + 1
 end
def uptoSmall : (H : Type) → List (DataW H) → Bool := fun _ ds => decide (uptoBulkAll ds ≤ 1048576)
def OpenSpec.upto (s : _root_.Go.ChangeSpec) : _root_.Go.OpenSpec := { _root_.Go.OpenSpec.ofChange s with cond := some uptoSmall }

/-- 'laws.FnExactIsName', WHERE WHAT IT READS IS OF BULK AT MOST 1048576: true; the input reads as it did. -/
def fnExactIsNameUptoRow : OpenClaim := { program := "ytnhdhjijdcdilaa", sum := "d174bfc92625e5dea5470acefa2786d9eee5114daf255187ecf83cd8c9d4ba15", func := "loop.example/g01032/laws.FnExactIsName", spec := "fnExactIsName", apart := false, narrowed := true }
def FnExactIsNameUptoSaid : Prop := fnExactIsNameUptoRow.holds Try.pinned (OpenSpec.upto fnExactIsNameSpec)

/-- 'laws.FnExactLongestDry', WHERE WHAT IT READS IS OF BULK AT MOST 1048576: true; the input reads as it did. -/
def fnExactLongestDryUptoRow : OpenClaim := { program := "ytnhdhjijdcdilaa", sum := "d174bfc92625e5dea5470acefa2786d9eee5114daf255187ecf83cd8c9d4ba15", func := "loop.example/g01032/laws.FnExactLongestDry", spec := "fnExactLongestDry", unfollowed := true, recurses := true, apart := false, narrowed := true }
def FnExactLongestDryUptoSaid : Prop := fnExactLongestDryUptoRow.holds Try.pinned (OpenSpec.upto fnExactLongestDrySpec)

/-- 'laws.FnExactSameCurve', WHERE WHAT IT READS IS OF BULK AT MOST 1048576: true; the input reads as it did. -/
def fnExactSameCurveUptoRow : OpenClaim := { program := "ytnhdhjijdcdilaa", sum := "d174bfc92625e5dea5470acefa2786d9eee5114daf255187ecf83cd8c9d4ba15", func := "loop.example/g01032/laws.FnExactSameCurve", spec := "fnExactSameCurve", apart := false, narrowed := true }
def FnExactSameCurveUptoSaid : Prop := fnExactSameCurveUptoRow.holds Try.pinned (OpenSpec.upto fnExactSameCurveSpec)

/-- 'laws.FnExactSameLand', WHERE WHAT IT READS IS OF BULK AT MOST 1048576: true; the input reads as it did. -/
def fnExactSameLandUptoRow : OpenClaim := { program := "ytnhdhjijdcdilaa", sum := "d174bfc92625e5dea5470acefa2786d9eee5114daf255187ecf83cd8c9d4ba15", func := "loop.example/g01032/laws.FnExactSameLand", spec := "fnExactSameLand", apart := false, narrowed := true }
def FnExactSameLandUptoSaid : Prop := fnExactSameLandUptoRow.holds Try.pinned (OpenSpec.upto fnExactSameLandSpec)

/-- 'laws.FnExactLevelFor', WHERE WHAT IT READS IS OF BULK AT MOST 1048576: true; the input reads as it did. -/
def fnExactLevelForUptoRow : OpenClaim := { program := "ytnhdhjijdcdilaa", sum := "d174bfc92625e5dea5470acefa2786d9eee5114daf255187ecf83cd8c9d4ba15", func := "loop.example/g01032/laws.FnExactLevelFor", spec := "fnExactLevelFor", unfollowed := true, recurses := true, apart := false, narrowed := true }
def FnExactLevelForUptoSaid : Prop := fnExactLevelForUptoRow.holds Try.pinned (OpenSpec.upto fnExactLevelForSpec)

/-- 'laws.FnExactLowestCells', WHERE WHAT IT READS IS OF BULK AT MOST 1048576: true; the input reads as it did. -/
def fnExactLowestCellsUptoRow : OpenClaim := { program := "ytnhdhjijdcdilaa", sum := "d174bfc92625e5dea5470acefa2786d9eee5114daf255187ecf83cd8c9d4ba15", func := "loop.example/g01032/laws.FnExactLowestCells", spec := "fnExactLowestCells", unfollowed := true, recurses := true, apart := false, narrowed := true }
def FnExactLowestCellsUptoSaid : Prop := fnExactLowestCellsUptoRow.holds Try.pinned (OpenSpec.upto fnExactLowestCellsSpec)

/-- 'laws.FnExactSetHeight', WHERE WHAT IT READS IS OF BULK AT MOST 1048576: true; the input reads as it did. -/
def fnExactSetHeightUptoRow : OpenClaim := { program := "ytnhdhjijdcdilaa", sum := "d174bfc92625e5dea5470acefa2786d9eee5114daf255187ecf83cd8c9d4ba15", func := "loop.example/g01032/laws.FnExactSetHeight", spec := "fnExactSetHeight", unfollowed := true, recurses := true, apart := false, narrowed := true }
def FnExactSetHeightUptoSaid : Prop := fnExactSetHeightUptoRow.holds Try.pinned (OpenSpec.upto fnExactSetHeightSpec)

/-- 'laws.FnExactRaiseLand', WHERE WHAT IT READS IS OF BULK AT MOST 1048576: true; the input reads as it did. -/
def fnExactRaiseLandUptoRow : OpenClaim := { program := "ytnhdhjijdcdilaa", sum := "d174bfc92625e5dea5470acefa2786d9eee5114daf255187ecf83cd8c9d4ba15", func := "loop.example/g01032/laws.FnExactRaiseLand", spec := "fnExactRaiseLand", unfollowed := true, recurses := true, apart := false, narrowed := true }
def FnExactRaiseLandUptoSaid : Prop := fnExactRaiseLandUptoRow.holds Try.pinned (OpenSpec.upto fnExactRaiseLandSpec)

/-- 'laws.FnExactCurveOfLand', WHERE WHAT IT READS IS OF BULK AT MOST 1048576: true; the input reads as it did. -/
def fnExactCurveOfLandUptoRow : OpenClaim := { program := "ytnhdhjijdcdilaa", sum := "d174bfc92625e5dea5470acefa2786d9eee5114daf255187ecf83cd8c9d4ba15", func := "loop.example/g01032/laws.FnExactCurveOfLand", spec := "fnExactCurveOfLand", unfollowed := true, recurses := true, apart := false, narrowed := true }
def FnExactCurveOfLandUptoSaid : Prop := fnExactCurveOfLandUptoRow.holds Try.pinned (OpenSpec.upto fnExactCurveOfLandSpec)

/-- 'laws.FnExactAreaAt', WHERE WHAT IT READS IS OF BULK AT MOST 1048576: true; the input reads as it did. -/
def fnExactAreaAtUptoRow : OpenClaim := { program := "ytnhdhjijdcdilaa", sum := "d174bfc92625e5dea5470acefa2786d9eee5114daf255187ecf83cd8c9d4ba15", func := "loop.example/g01032/laws.FnExactAreaAt", spec := "fnExactAreaAt", apart := false, narrowed := true }
def FnExactAreaAtUptoSaid : Prop := fnExactAreaAtUptoRow.holds Try.pinned (OpenSpec.upto fnExactAreaAtSpec)

/-- 'laws.FnExactJoinCurves', WHERE WHAT IT READS IS OF BULK AT MOST 1048576: true; the input reads as it did. -/
def fnExactJoinCurvesUptoRow : OpenClaim := { program := "ytnhdhjijdcdilaa", sum := "d174bfc92625e5dea5470acefa2786d9eee5114daf255187ecf83cd8c9d4ba15", func := "loop.example/g01032/laws.FnExactJoinCurves", spec := "fnExactJoinCurves", apart := false, narrowed := true }
def FnExactJoinCurvesUptoSaid : Prop := fnExactJoinCurvesUptoRow.holds Try.pinned (OpenSpec.upto fnExactJoinCurvesSpec)

end Rows
end Go.Proofs.Ytnhdhjijdcdilaa
