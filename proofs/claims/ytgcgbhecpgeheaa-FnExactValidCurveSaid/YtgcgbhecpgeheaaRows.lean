/-
  No cell of these rows narrows 'for every input' (looked for: loops, veiled, ifaces, maps, wideKeys, modest, calm, conditions, laid).
  DERIVED. THE GIVEN ROWS OF THIS SEAT. 12 by the template 'for every input the law returns true; each argument reads behind the call as it read before'; 0 by the template 'total and deterministic' (their statements: YtgcgbhecpgeheaaTotals.lean).
  GIVEN WITH THE SEED: the statements are not yours to turn. If you find one false, say at which input.
  Laid BY PROGRAM, IN A SANDBOX (cutbox-rows.mjs): the forced cells as the released guide's own fill.sh prints them over the translation edea04b83746f0aa… (all of the seat's roots in one cut). By AI agents, Wed Nov 11 2026. No macro, syntax, notation, axiom, sorry.
-/
import Derived.Test.YtgcgbhecpgeheaaChecked
import GoSem.Claim
import GoSem.ClaimJoined
import GoSem.ClaimMapViews
import Derived.JoinedTies
import Derived.KernelRfl
namespace Go.Proofs.Ytgcgbhecpgeheaa
/- THE CELL 'sum', in the pinned program and in every row, IS THE sha256 OF THE DUMP (.gsa) THAT YtgcgbhecpgeheaaProg.lean LOADS. Nothing in Lean hashes anything: it is a label: what it is worth is what the hold of that sum in a sandbox is worth. -/
noncomputable def Try.pinned : Pinned := { name := "ytgcgbhecpgeheaa", sum := "edea04b83746f0aae6bbc0943b99b19b3184488d66e40b70e722d59b8f1731dd", checked := Try.checked }
namespace Rows
def none {H : Type} : Left H := { results := [], args := [] }

/-- 'laws.FnExactIsName': WHATEVER THE INPUT: true; the input reads as it did. -/
def fnExactIsNameSpec : ChangeSpec := { name := "fnExactIsName", fn := fun _ => fun
  | [d] => { results := [.lit (.bool true)], args := [d] }
  | _ => none }
def fnExactIsNameRow : OpenClaim := { program := "ytgcgbhecpgeheaa", sum := "edea04b83746f0aae6bbc0943b99b19b3184488d66e40b70e722d59b8f1731dd", func := "loop.example/g01032/laws.FnExactIsName", spec := "fnExactIsName", apart := false }
def FnExactIsNameSaid : Prop := fnExactIsNameRow.holds Try.pinned (OpenSpec.ofChange fnExactIsNameSpec)

/-- ITS FALSE NEIGHBOUR: 'it returns false'. Refute it at one input. -/
def fnExactIsNameWrong : ChangeSpec := { name := "fnExactIsName", fn := fun _ => fun
  | [d] => { results := [.lit (.bool false)], args := [d] }
  | _ => none }
def FnExactIsNameWrongFalsely : Prop := fnExactIsNameRow.holds Try.pinned (OpenSpec.ofChange fnExactIsNameWrong)

/-- 'laws.FnExactRoundFraction': WHATEVER THE INPUT: true; the input reads as it did. -/
def fnExactRoundFractionSpec : ChangeSpec := { name := "fnExactRoundFraction", fn := fun _ => fun
  | [d] => { results := [.lit (.bool true)], args := [d] }
  | _ => none }
def fnExactRoundFractionRow : OpenClaim := { program := "ytgcgbhecpgeheaa", sum := "edea04b83746f0aae6bbc0943b99b19b3184488d66e40b70e722d59b8f1731dd", func := "loop.example/g01032/laws.FnExactRoundFraction", spec := "fnExactRoundFraction", apart := false }
def FnExactRoundFractionSaid : Prop := fnExactRoundFractionRow.holds Try.pinned (OpenSpec.ofChange fnExactRoundFractionSpec)

/-- ITS FALSE NEIGHBOUR: 'it returns false'. Refute it at one input. -/
def fnExactRoundFractionWrong : ChangeSpec := { name := "fnExactRoundFraction", fn := fun _ => fun
  | [d] => { results := [.lit (.bool false)], args := [d] }
  | _ => none }
def FnExactRoundFractionWrongFalsely : Prop := fnExactRoundFractionRow.holds Try.pinned (OpenSpec.ofChange fnExactRoundFractionWrong)

/-- 'laws.FnExactValidRain': WHATEVER THE INPUT: true; the input reads as it did. -/
def fnExactValidRainSpec : ChangeSpec := { name := "fnExactValidRain", fn := fun _ => fun
  | [d] => { results := [.lit (.bool true)], args := [d] }
  | _ => none }
def fnExactValidRainRow : OpenClaim := { program := "ytgcgbhecpgeheaa", sum := "edea04b83746f0aae6bbc0943b99b19b3184488d66e40b70e722d59b8f1731dd", func := "loop.example/g01032/laws.FnExactValidRain", spec := "fnExactValidRain", unfollowed := true, recurses := true, apart := false }
def FnExactValidRainSaid : Prop := fnExactValidRainRow.holds Try.pinned (OpenSpec.ofChange fnExactValidRainSpec)

/-- ITS FALSE NEIGHBOUR: 'it returns false'. Refute it at one input. -/
def fnExactValidRainWrong : ChangeSpec := { name := "fnExactValidRain", fn := fun _ => fun
  | [d] => { results := [.lit (.bool false)], args := [d] }
  | _ => none }
def FnExactValidRainWrongFalsely : Prop := fnExactValidRainRow.holds Try.pinned (OpenSpec.ofChange fnExactValidRainWrong)

/-- 'laws.FnExactSlopeBetween': WHATEVER THE INPUT: true; the input reads as it did. -/
def fnExactSlopeBetweenSpec : ChangeSpec := { name := "fnExactSlopeBetween", fn := fun _ => fun
  | [d1, d2, d3] => { results := [.lit (.bool true)], args := [d1, d2, d3] }
  | _ => none }
def fnExactSlopeBetweenRow : OpenClaim := { program := "ytgcgbhecpgeheaa", sum := "edea04b83746f0aae6bbc0943b99b19b3184488d66e40b70e722d59b8f1731dd", func := "loop.example/g01032/laws.FnExactSlopeBetween", spec := "fnExactSlopeBetween", apart := false }
def FnExactSlopeBetweenSaid : Prop := fnExactSlopeBetweenRow.holds Try.pinned (OpenSpec.ofChange fnExactSlopeBetweenSpec)

/-- ITS FALSE NEIGHBOUR: 'it returns false'. Refute it at one input. -/
def fnExactSlopeBetweenWrong : ChangeSpec := { name := "fnExactSlopeBetween", fn := fun _ => fun
  | [d1, d2, d3] => { results := [.lit (.bool false)], args := [d1, d2, d3] }
  | _ => none }
def FnExactSlopeBetweenWrongFalsely : Prop := fnExactSlopeBetweenRow.holds Try.pinned (OpenSpec.ofChange fnExactSlopeBetweenWrong)

/-- 'laws.FnExactRoomFor': WHATEVER THE INPUT: true; the input reads as it did. -/
def fnExactRoomForSpec : ChangeSpec := { name := "fnExactRoomFor", fn := fun _ => fun
  | [d1, d2, d3] => { results := [.lit (.bool true)], args := [d1, d2, d3] }
  | _ => none }
def fnExactRoomForRow : OpenClaim := { program := "ytgcgbhecpgeheaa", sum := "edea04b83746f0aae6bbc0943b99b19b3184488d66e40b70e722d59b8f1731dd", func := "loop.example/g01032/laws.FnExactRoomFor", spec := "fnExactRoomFor", unfollowed := true, recurses := true, apart := false }
def FnExactRoomForSaid : Prop := fnExactRoomForRow.holds Try.pinned (OpenSpec.ofChange fnExactRoomForSpec)

/-- ITS FALSE NEIGHBOUR: 'it returns false'. Refute it at one input. -/
def fnExactRoomForWrong : ChangeSpec := { name := "fnExactRoomFor", fn := fun _ => fun
  | [d1, d2, d3] => { results := [.lit (.bool false)], args := [d1, d2, d3] }
  | _ => none }
def FnExactRoomForWrongFalsely : Prop := fnExactRoomForRow.holds Try.pinned (OpenSpec.ofChange fnExactRoomForWrong)

/-- 'laws.FnExactRisesFast': WHATEVER THE INPUT: true; the input reads as it did. -/
def fnExactRisesFastSpec : ChangeSpec := { name := "fnExactRisesFast", fn := fun _ => fun
  | [d1, d2] => { results := [.lit (.bool true)], args := [d1, d2] }
  | _ => none }
def fnExactRisesFastRow : OpenClaim := { program := "ytgcgbhecpgeheaa", sum := "edea04b83746f0aae6bbc0943b99b19b3184488d66e40b70e722d59b8f1731dd", func := "loop.example/g01032/laws.FnExactRisesFast", spec := "fnExactRisesFast", unfollowed := true, recurses := true, apart := false }
def FnExactRisesFastSaid : Prop := fnExactRisesFastRow.holds Try.pinned (OpenSpec.ofChange fnExactRisesFastSpec)

/-- ITS FALSE NEIGHBOUR: 'it returns false'. Refute it at one input. -/
def fnExactRisesFastWrong : ChangeSpec := { name := "fnExactRisesFast", fn := fun _ => fun
  | [d1, d2] => { results := [.lit (.bool false)], args := [d1, d2] }
  | _ => none }
def FnExactRisesFastWrongFalsely : Prop := fnExactRisesFastRow.holds Try.pinned (OpenSpec.ofChange fnExactRisesFastWrong)

/-- 'laws.FnExactRanksOf': WHATEVER THE INPUT: true; the input reads as it did. -/
def fnExactRanksOfSpec : ChangeSpec := { name := "fnExactRanksOf", fn := fun _ => fun
  | [d] => { results := [.lit (.bool true)], args := [d] }
  | _ => none }
def fnExactRanksOfRow : OpenClaim := { program := "ytgcgbhecpgeheaa", sum := "edea04b83746f0aae6bbc0943b99b19b3184488d66e40b70e722d59b8f1731dd", func := "loop.example/g01032/laws.FnExactRanksOf", spec := "fnExactRanksOf", unfollowed := true, recurses := true, apart := false }
def FnExactRanksOfSaid : Prop := fnExactRanksOfRow.holds Try.pinned (OpenSpec.ofChange fnExactRanksOfSpec)

/-- ITS FALSE NEIGHBOUR: 'it returns false'. Refute it at one input. -/
def fnExactRanksOfWrong : ChangeSpec := { name := "fnExactRanksOf", fn := fun _ => fun
  | [d] => { results := [.lit (.bool false)], args := [d] }
  | _ => none }
def FnExactRanksOfWrongFalsely : Prop := fnExactRanksOfRow.holds Try.pinned (OpenSpec.ofChange fnExactRanksOfWrong)

/-- 'laws.FnExactLongestDry': WHATEVER THE INPUT: true; the input reads as it did. -/
def fnExactLongestDrySpec : ChangeSpec := { name := "fnExactLongestDry", fn := fun _ => fun
  | [d] => { results := [.lit (.bool true)], args := [d] }
  | _ => none }
def fnExactLongestDryRow : OpenClaim := { program := "ytgcgbhecpgeheaa", sum := "edea04b83746f0aae6bbc0943b99b19b3184488d66e40b70e722d59b8f1731dd", func := "loop.example/g01032/laws.FnExactLongestDry", spec := "fnExactLongestDry", unfollowed := true, recurses := true, apart := false }
def FnExactLongestDrySaid : Prop := fnExactLongestDryRow.holds Try.pinned (OpenSpec.ofChange fnExactLongestDrySpec)

/-- ITS FALSE NEIGHBOUR: 'it returns false'. Refute it at one input. -/
def fnExactLongestDryWrong : ChangeSpec := { name := "fnExactLongestDry", fn := fun _ => fun
  | [d] => { results := [.lit (.bool false)], args := [d] }
  | _ => none }
def FnExactLongestDryWrongFalsely : Prop := fnExactLongestDryRow.holds Try.pinned (OpenSpec.ofChange fnExactLongestDryWrong)

/-- 'laws.FnExactRunoffOf': WHATEVER THE INPUT: true; the input reads as it did. -/
def fnExactRunoffOfSpec : ChangeSpec := { name := "fnExactRunoffOf", fn := fun _ => fun
  | [d1, d2, d3, d4] => { results := [.lit (.bool true)], args := [d1, d2, d3, d4] }
  | _ => none }
def fnExactRunoffOfRow : OpenClaim := { program := "ytgcgbhecpgeheaa", sum := "edea04b83746f0aae6bbc0943b99b19b3184488d66e40b70e722d59b8f1731dd", func := "loop.example/g01032/laws.FnExactRunoffOf", spec := "fnExactRunoffOf", unfollowed := true, recurses := true, apart := false }
def FnExactRunoffOfSaid : Prop := fnExactRunoffOfRow.holds Try.pinned (OpenSpec.ofChange fnExactRunoffOfSpec)

/-- ITS FALSE NEIGHBOUR: 'it returns false'. Refute it at one input. -/
def fnExactRunoffOfWrong : ChangeSpec := { name := "fnExactRunoffOf", fn := fun _ => fun
  | [d1, d2, d3, d4] => { results := [.lit (.bool false)], args := [d1, d2, d3, d4] }
  | _ => none }
def FnExactRunoffOfWrongFalsely : Prop := fnExactRunoffOfRow.holds Try.pinned (OpenSpec.ofChange fnExactRunoffOfWrong)

/-- 'laws.FnExactMeanLevel': WHATEVER THE INPUT: true; the input reads as it did. -/
def fnExactMeanLevelSpec : ChangeSpec := { name := "fnExactMeanLevel", fn := fun _ => fun
  | [d] => { results := [.lit (.bool true)], args := [d] }
  | _ => none }
def fnExactMeanLevelRow : OpenClaim := { program := "ytgcgbhecpgeheaa", sum := "edea04b83746f0aae6bbc0943b99b19b3184488d66e40b70e722d59b8f1731dd", func := "loop.example/g01032/laws.FnExactMeanLevel", spec := "fnExactMeanLevel", unfollowed := true, recurses := true, apart := false }
def FnExactMeanLevelSaid : Prop := fnExactMeanLevelRow.holds Try.pinned (OpenSpec.ofChange fnExactMeanLevelSpec)

/-- ITS FALSE NEIGHBOUR: 'it returns false'. Refute it at one input. -/
def fnExactMeanLevelWrong : ChangeSpec := { name := "fnExactMeanLevel", fn := fun _ => fun
  | [d] => { results := [.lit (.bool false)], args := [d] }
  | _ => none }
def FnExactMeanLevelWrongFalsely : Prop := fnExactMeanLevelRow.holds Try.pinned (OpenSpec.ofChange fnExactMeanLevelWrong)

/-- 'laws.FnExactSameCurve': WHATEVER THE INPUT: true; the input reads as it did. -/
def fnExactSameCurveSpec : ChangeSpec := { name := "fnExactSameCurve", fn := fun _ => fun
  | [d1, d2] => { results := [.lit (.bool true)], args := [d1, d2] }
  | _ => none }
def fnExactSameCurveRow : OpenClaim := { program := "ytgcgbhecpgeheaa", sum := "edea04b83746f0aae6bbc0943b99b19b3184488d66e40b70e722d59b8f1731dd", func := "loop.example/g01032/laws.FnExactSameCurve", spec := "fnExactSameCurve", apart := false }
def FnExactSameCurveSaid : Prop := fnExactSameCurveRow.holds Try.pinned (OpenSpec.ofChange fnExactSameCurveSpec)

/-- ITS FALSE NEIGHBOUR: 'it returns false'. Refute it at one input. -/
def fnExactSameCurveWrong : ChangeSpec := { name := "fnExactSameCurve", fn := fun _ => fun
  | [d1, d2] => { results := [.lit (.bool false)], args := [d1, d2] }
  | _ => none }
def FnExactSameCurveWrongFalsely : Prop := fnExactSameCurveRow.holds Try.pinned (OpenSpec.ofChange fnExactSameCurveWrong)

/-- 'laws.FnExactValidCurve': WHATEVER THE INPUT: true; the input reads as it did. -/
def fnExactValidCurveSpec : ChangeSpec := { name := "fnExactValidCurve", fn := fun _ => fun
  | [d] => { results := [.lit (.bool true)], args := [d] }
  | _ => none }
def fnExactValidCurveRow : OpenClaim := { program := "ytgcgbhecpgeheaa", sum := "edea04b83746f0aae6bbc0943b99b19b3184488d66e40b70e722d59b8f1731dd", func := "loop.example/g01032/laws.FnExactValidCurve", spec := "fnExactValidCurve", apart := false }
def FnExactValidCurveSaid : Prop := fnExactValidCurveRow.holds Try.pinned (OpenSpec.ofChange fnExactValidCurveSpec)

/-- ITS FALSE NEIGHBOUR: 'it returns false'. Refute it at one input. -/
def fnExactValidCurveWrong : ChangeSpec := { name := "fnExactValidCurve", fn := fun _ => fun
  | [d] => { results := [.lit (.bool false)], args := [d] }
  | _ => none }
def FnExactValidCurveWrongFalsely : Prop := fnExactValidCurveRow.holds Try.pinned (OpenSpec.ofChange fnExactValidCurveWrong)

/- THE SECOND FORM. 'bulk': how many values and letters a reading holds, each counted each time it is reached (what is shared counts as often as it is met; a slice's spare places count too). A statement '..UptoSaid' is the law's where the arguments, and the package variables that the reading takes, are together of bulk at most 1048576: NARROWER than '..Said'. Prove '..Said' where nothing that the law and all that it calls make is longer than what came in: it says more and counts as full. Else prove '..UptoSaid'. A law counts once. -/
mutual
def uptoBulk {H : Type} : DataW H → Nat
  | .lit (.string bytes) => bytes.length + 1
  | .lit _ => 1
  | .nil => 1
  | .ptr d => uptoBulk d + 1
  | .slice elems spare => uptoBulkAll elems + uptoBulkAll spare + 1
  | .agg parts => uptoBulkAll parts + 1
  | .iface _ d => uptoBulk d + 1
  | .map entries => uptoBulkEntries entries + 1
  | .held _ => 1
def uptoBulkAll {H : Type} : List (DataW H) → Nat
  | [] => 0
  | d :: r => uptoBulk d + uptoBulkAll r
def uptoBulkEntries {H : Type} : List (Lit × DataW H) → Nat
  | [] => 0
  | x :: r => uptoBulkEntry x + uptoBulkEntries r
def uptoBulkEntry {H : Type} : Lit × DataW H → Nat
  | (.string bytes, d) => bytes.length + uptoBulk d + 1
  | (_, d) => uptoBulk d + 1
 end
def uptoSmall : (H : Type) → List (DataW H) → Bool := fun _ ds => decide (uptoBulkAll ds ≤ 1048576)
def OpenSpec.upto (s : _root_.Go.ChangeSpec) : _root_.Go.OpenSpec := { _root_.Go.OpenSpec.ofChange s with cond := some uptoSmall }

/-- 'laws.FnExactIsName', WHERE WHAT IT READS IS OF BULK AT MOST 1048576: true; the input reads as it did. -/
def fnExactIsNameUptoRow : OpenClaim := { program := "ytgcgbhecpgeheaa", sum := "edea04b83746f0aae6bbc0943b99b19b3184488d66e40b70e722d59b8f1731dd", func := "loop.example/g01032/laws.FnExactIsName", spec := "fnExactIsName", apart := false, narrowed := true }
def FnExactIsNameUptoSaid : Prop := fnExactIsNameUptoRow.holds Try.pinned (OpenSpec.upto fnExactIsNameSpec)

/-- 'laws.FnExactRoundFraction', WHERE WHAT IT READS IS OF BULK AT MOST 1048576: true; the input reads as it did. -/
def fnExactRoundFractionUptoRow : OpenClaim := { program := "ytgcgbhecpgeheaa", sum := "edea04b83746f0aae6bbc0943b99b19b3184488d66e40b70e722d59b8f1731dd", func := "loop.example/g01032/laws.FnExactRoundFraction", spec := "fnExactRoundFraction", apart := false, narrowed := true }
def FnExactRoundFractionUptoSaid : Prop := fnExactRoundFractionUptoRow.holds Try.pinned (OpenSpec.upto fnExactRoundFractionSpec)

/-- 'laws.FnExactValidRain', WHERE WHAT IT READS IS OF BULK AT MOST 1048576: true; the input reads as it did. -/
def fnExactValidRainUptoRow : OpenClaim := { program := "ytgcgbhecpgeheaa", sum := "edea04b83746f0aae6bbc0943b99b19b3184488d66e40b70e722d59b8f1731dd", func := "loop.example/g01032/laws.FnExactValidRain", spec := "fnExactValidRain", unfollowed := true, recurses := true, apart := false, narrowed := true }
def FnExactValidRainUptoSaid : Prop := fnExactValidRainUptoRow.holds Try.pinned (OpenSpec.upto fnExactValidRainSpec)

/-- 'laws.FnExactSlopeBetween', WHERE WHAT IT READS IS OF BULK AT MOST 1048576: true; the input reads as it did. -/
def fnExactSlopeBetweenUptoRow : OpenClaim := { program := "ytgcgbhecpgeheaa", sum := "edea04b83746f0aae6bbc0943b99b19b3184488d66e40b70e722d59b8f1731dd", func := "loop.example/g01032/laws.FnExactSlopeBetween", spec := "fnExactSlopeBetween", apart := false, narrowed := true }
def FnExactSlopeBetweenUptoSaid : Prop := fnExactSlopeBetweenUptoRow.holds Try.pinned (OpenSpec.upto fnExactSlopeBetweenSpec)

/-- 'laws.FnExactRoomFor', WHERE WHAT IT READS IS OF BULK AT MOST 1048576: true; the input reads as it did. -/
def fnExactRoomForUptoRow : OpenClaim := { program := "ytgcgbhecpgeheaa", sum := "edea04b83746f0aae6bbc0943b99b19b3184488d66e40b70e722d59b8f1731dd", func := "loop.example/g01032/laws.FnExactRoomFor", spec := "fnExactRoomFor", unfollowed := true, recurses := true, apart := false, narrowed := true }
def FnExactRoomForUptoSaid : Prop := fnExactRoomForUptoRow.holds Try.pinned (OpenSpec.upto fnExactRoomForSpec)

/-- 'laws.FnExactRisesFast', WHERE WHAT IT READS IS OF BULK AT MOST 1048576: true; the input reads as it did. -/
def fnExactRisesFastUptoRow : OpenClaim := { program := "ytgcgbhecpgeheaa", sum := "edea04b83746f0aae6bbc0943b99b19b3184488d66e40b70e722d59b8f1731dd", func := "loop.example/g01032/laws.FnExactRisesFast", spec := "fnExactRisesFast", unfollowed := true, recurses := true, apart := false, narrowed := true }
def FnExactRisesFastUptoSaid : Prop := fnExactRisesFastUptoRow.holds Try.pinned (OpenSpec.upto fnExactRisesFastSpec)

/-- 'laws.FnExactRanksOf', WHERE WHAT IT READS IS OF BULK AT MOST 1048576: true; the input reads as it did. -/
def fnExactRanksOfUptoRow : OpenClaim := { program := "ytgcgbhecpgeheaa", sum := "edea04b83746f0aae6bbc0943b99b19b3184488d66e40b70e722d59b8f1731dd", func := "loop.example/g01032/laws.FnExactRanksOf", spec := "fnExactRanksOf", unfollowed := true, recurses := true, apart := false, narrowed := true }
def FnExactRanksOfUptoSaid : Prop := fnExactRanksOfUptoRow.holds Try.pinned (OpenSpec.upto fnExactRanksOfSpec)

/-- 'laws.FnExactLongestDry', WHERE WHAT IT READS IS OF BULK AT MOST 1048576: true; the input reads as it did. -/
def fnExactLongestDryUptoRow : OpenClaim := { program := "ytgcgbhecpgeheaa", sum := "edea04b83746f0aae6bbc0943b99b19b3184488d66e40b70e722d59b8f1731dd", func := "loop.example/g01032/laws.FnExactLongestDry", spec := "fnExactLongestDry", unfollowed := true, recurses := true, apart := false, narrowed := true }
def FnExactLongestDryUptoSaid : Prop := fnExactLongestDryUptoRow.holds Try.pinned (OpenSpec.upto fnExactLongestDrySpec)

/-- 'laws.FnExactRunoffOf', WHERE WHAT IT READS IS OF BULK AT MOST 1048576: true; the input reads as it did. -/
def fnExactRunoffOfUptoRow : OpenClaim := { program := "ytgcgbhecpgeheaa", sum := "edea04b83746f0aae6bbc0943b99b19b3184488d66e40b70e722d59b8f1731dd", func := "loop.example/g01032/laws.FnExactRunoffOf", spec := "fnExactRunoffOf", unfollowed := true, recurses := true, apart := false, narrowed := true }
def FnExactRunoffOfUptoSaid : Prop := fnExactRunoffOfUptoRow.holds Try.pinned (OpenSpec.upto fnExactRunoffOfSpec)

/-- 'laws.FnExactMeanLevel', WHERE WHAT IT READS IS OF BULK AT MOST 1048576: true; the input reads as it did. -/
def fnExactMeanLevelUptoRow : OpenClaim := { program := "ytgcgbhecpgeheaa", sum := "edea04b83746f0aae6bbc0943b99b19b3184488d66e40b70e722d59b8f1731dd", func := "loop.example/g01032/laws.FnExactMeanLevel", spec := "fnExactMeanLevel", unfollowed := true, recurses := true, apart := false, narrowed := true }
def FnExactMeanLevelUptoSaid : Prop := fnExactMeanLevelUptoRow.holds Try.pinned (OpenSpec.upto fnExactMeanLevelSpec)

/-- 'laws.FnExactSameCurve', WHERE WHAT IT READS IS OF BULK AT MOST 1048576: true; the input reads as it did. -/
def fnExactSameCurveUptoRow : OpenClaim := { program := "ytgcgbhecpgeheaa", sum := "edea04b83746f0aae6bbc0943b99b19b3184488d66e40b70e722d59b8f1731dd", func := "loop.example/g01032/laws.FnExactSameCurve", spec := "fnExactSameCurve", apart := false, narrowed := true }
def FnExactSameCurveUptoSaid : Prop := fnExactSameCurveUptoRow.holds Try.pinned (OpenSpec.upto fnExactSameCurveSpec)

/-- 'laws.FnExactValidCurve', WHERE WHAT IT READS IS OF BULK AT MOST 1048576: true; the input reads as it did. -/
def fnExactValidCurveUptoRow : OpenClaim := { program := "ytgcgbhecpgeheaa", sum := "edea04b83746f0aae6bbc0943b99b19b3184488d66e40b70e722d59b8f1731dd", func := "loop.example/g01032/laws.FnExactValidCurve", spec := "fnExactValidCurve", apart := false, narrowed := true }
def FnExactValidCurveUptoSaid : Prop := fnExactValidCurveUptoRow.holds Try.pinned (OpenSpec.upto fnExactValidCurveSpec)

end Rows
end Go.Proofs.Ytgcgbhecpgeheaa
