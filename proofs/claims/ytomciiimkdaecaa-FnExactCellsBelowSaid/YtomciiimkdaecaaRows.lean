/-
  No cell of these rows narrows 'for every input' (looked for: loops, veiled, ifaces, maps, wideKeys, modest, calm, conditions, laid).
  DERIVED. THE GIVEN ROWS OF THIS SEAT. 10 by the template 'for every input the law returns true; each argument reads behind the call as it read before'; 0 by the template 'total and deterministic' (their statements: YtomciiimkdaecaaTotals.lean).
  GIVEN WITH THE SEED: the statements are not yours to turn. If you find one false, say at which input.
  Laid BY PROGRAM, IN A SANDBOX (cutbox-rows.mjs): the forced cells as the released guide's own fill.sh prints them over the translation 59bb0a40cf5a37d3… (all of the seat's roots in one cut). By AI agents, Wed Nov 11 2026. No macro, syntax, notation, axiom, sorry.
-/
import Derived.Test.YtomciiimkdaecaaChecked
import GoSem.Claim
import GoSem.ClaimJoined
import GoSem.ClaimMapViews
import Derived.JoinedTies
import Derived.KernelRfl
namespace Go.Proofs.Ytomciiimkdaecaa
/- THE CELL 'sum', in the pinned program and in every row, IS THE sha256 OF THE DUMP (.gsa) THAT YtomciiimkdaecaaProg.lean LOADS. Nothing in Lean hashes anything: it is a label: what it is worth is what the hold of that sum in a sandbox is worth. -/
noncomputable def Try.pinned : Pinned := { name := "ytomciiimkdaecaa", sum := "59bb0a40cf5a37d37372349de2fe9ba98253a7f51332945b42ef4f808533e5be", checked := Try.checked }
namespace Rows
def none {H : Type} : Left H := { results := [], args := [] }

/-- 'laws.FnExactSameLand': WHATEVER THE INPUT: true; the input reads as it did. -/
def fnExactSameLandSpec : ChangeSpec := { name := "fnExactSameLand", fn := fun _ => fun
  | [d1, d2] => { results := [.lit (.bool true)], args := [d1, d2] }
  | _ => none }
def fnExactSameLandRow : OpenClaim := { program := "ytomciiimkdaecaa", sum := "59bb0a40cf5a37d37372349de2fe9ba98253a7f51332945b42ef4f808533e5be", func := "loop.example/g01032/laws.FnExactSameLand", spec := "fnExactSameLand", apart := false }
def FnExactSameLandSaid : Prop := fnExactSameLandRow.holds Try.pinned (OpenSpec.ofChange fnExactSameLandSpec)

/-- ITS FALSE NEIGHBOUR: 'it returns false'. Refute it at one input. -/
def fnExactSameLandWrong : ChangeSpec := { name := "fnExactSameLand", fn := fun _ => fun
  | [d1, d2] => { results := [.lit (.bool false)], args := [d1, d2] }
  | _ => none }
def FnExactSameLandWrongFalsely : Prop := fnExactSameLandRow.holds Try.pinned (OpenSpec.ofChange fnExactSameLandWrong)

/-- 'laws.FnExactValidLand': WHATEVER THE INPUT: true; the input reads as it did. -/
def fnExactValidLandSpec : ChangeSpec := { name := "fnExactValidLand", fn := fun _ => fun
  | [d] => { results := [.lit (.bool true)], args := [d] }
  | _ => none }
def fnExactValidLandRow : OpenClaim := { program := "ytomciiimkdaecaa", sum := "59bb0a40cf5a37d37372349de2fe9ba98253a7f51332945b42ef4f808533e5be", func := "loop.example/g01032/laws.FnExactValidLand", spec := "fnExactValidLand", unfollowed := true, recurses := true, apart := false }
def FnExactValidLandSaid : Prop := fnExactValidLandRow.holds Try.pinned (OpenSpec.ofChange fnExactValidLandSpec)

/-- ITS FALSE NEIGHBOUR: 'it returns false'. Refute it at one input. -/
def fnExactValidLandWrong : ChangeSpec := { name := "fnExactValidLand", fn := fun _ => fun
  | [d] => { results := [.lit (.bool false)], args := [d] }
  | _ => none }
def FnExactValidLandWrongFalsely : Prop := fnExactValidLandRow.holds Try.pinned (OpenSpec.ofChange fnExactValidLandWrong)

/-- 'laws.FnExactHeightAt': WHATEVER THE INPUT: true; the input reads as it did. -/
def fnExactHeightAtSpec : ChangeSpec := { name := "fnExactHeightAt", fn := fun _ => fun
  | [d1, d2, d3] => { results := [.lit (.bool true)], args := [d1, d2, d3] }
  | _ => none }
def fnExactHeightAtRow : OpenClaim := { program := "ytomciiimkdaecaa", sum := "59bb0a40cf5a37d37372349de2fe9ba98253a7f51332945b42ef4f808533e5be", func := "loop.example/g01032/laws.FnExactHeightAt", spec := "fnExactHeightAt", unfollowed := true, recurses := true, apart := false }
def FnExactHeightAtSaid : Prop := fnExactHeightAtRow.holds Try.pinned (OpenSpec.ofChange fnExactHeightAtSpec)

/-- ITS FALSE NEIGHBOUR: 'it returns false'. Refute it at one input. -/
def fnExactHeightAtWrong : ChangeSpec := { name := "fnExactHeightAt", fn := fun _ => fun
  | [d1, d2, d3] => { results := [.lit (.bool false)], args := [d1, d2, d3] }
  | _ => none }
def FnExactHeightAtWrongFalsely : Prop := fnExactHeightAtRow.holds Try.pinned (OpenSpec.ofChange fnExactHeightAtWrong)

/-- 'laws.FnExactCellsBelow': WHATEVER THE INPUT: true; the input reads as it did. -/
def fnExactCellsBelowSpec : ChangeSpec := { name := "fnExactCellsBelow", fn := fun _ => fun
  | [d1, d2] => { results := [.lit (.bool true)], args := [d1, d2] }
  | _ => none }
def fnExactCellsBelowRow : OpenClaim := { program := "ytomciiimkdaecaa", sum := "59bb0a40cf5a37d37372349de2fe9ba98253a7f51332945b42ef4f808533e5be", func := "loop.example/g01032/laws.FnExactCellsBelow", spec := "fnExactCellsBelow", unfollowed := true, recurses := true, apart := false }
def FnExactCellsBelowSaid : Prop := fnExactCellsBelowRow.holds Try.pinned (OpenSpec.ofChange fnExactCellsBelowSpec)

/-- ITS FALSE NEIGHBOUR: 'it returns false'. Refute it at one input. -/
def fnExactCellsBelowWrong : ChangeSpec := { name := "fnExactCellsBelow", fn := fun _ => fun
  | [d1, d2] => { results := [.lit (.bool false)], args := [d1, d2] }
  | _ => none }
def FnExactCellsBelowWrongFalsely : Prop := fnExactCellsBelowRow.holds Try.pinned (OpenSpec.ofChange fnExactCellsBelowWrong)

/-- 'laws.FnExactVolumeBelow': WHATEVER THE INPUT: true; the input reads as it did. -/
def fnExactVolumeBelowSpec : ChangeSpec := { name := "fnExactVolumeBelow", fn := fun _ => fun
  | [d1, d2] => { results := [.lit (.bool true)], args := [d1, d2] }
  | _ => none }
def fnExactVolumeBelowRow : OpenClaim := { program := "ytomciiimkdaecaa", sum := "59bb0a40cf5a37d37372349de2fe9ba98253a7f51332945b42ef4f808533e5be", func := "loop.example/g01032/laws.FnExactVolumeBelow", spec := "fnExactVolumeBelow", unfollowed := true, recurses := true, apart := false }
def FnExactVolumeBelowSaid : Prop := fnExactVolumeBelowRow.holds Try.pinned (OpenSpec.ofChange fnExactVolumeBelowSpec)

/-- ITS FALSE NEIGHBOUR: 'it returns false'. Refute it at one input. -/
def fnExactVolumeBelowWrong : ChangeSpec := { name := "fnExactVolumeBelow", fn := fun _ => fun
  | [d1, d2] => { results := [.lit (.bool false)], args := [d1, d2] }
  | _ => none }
def FnExactVolumeBelowWrongFalsely : Prop := fnExactVolumeBelowRow.holds Try.pinned (OpenSpec.ofChange fnExactVolumeBelowWrong)

/-- 'laws.FnExactLevelFor': WHATEVER THE INPUT: true; the input reads as it did. -/
def fnExactLevelForSpec : ChangeSpec := { name := "fnExactLevelFor", fn := fun _ => fun
  | [d1, d2] => { results := [.lit (.bool true)], args := [d1, d2] }
  | _ => none }
def fnExactLevelForRow : OpenClaim := { program := "ytomciiimkdaecaa", sum := "59bb0a40cf5a37d37372349de2fe9ba98253a7f51332945b42ef4f808533e5be", func := "loop.example/g01032/laws.FnExactLevelFor", spec := "fnExactLevelFor", unfollowed := true, recurses := true, apart := false }
def FnExactLevelForSaid : Prop := fnExactLevelForRow.holds Try.pinned (OpenSpec.ofChange fnExactLevelForSpec)

/-- ITS FALSE NEIGHBOUR: 'it returns false'. Refute it at one input. -/
def fnExactLevelForWrong : ChangeSpec := { name := "fnExactLevelFor", fn := fun _ => fun
  | [d1, d2] => { results := [.lit (.bool false)], args := [d1, d2] }
  | _ => none }
def FnExactLevelForWrongFalsely : Prop := fnExactLevelForRow.holds Try.pinned (OpenSpec.ofChange fnExactLevelForWrong)

/-- 'laws.FnExactLowestCells': WHATEVER THE INPUT: true; the input reads as it did. -/
def fnExactLowestCellsSpec : ChangeSpec := { name := "fnExactLowestCells", fn := fun _ => fun
  | [d] => { results := [.lit (.bool true)], args := [d] }
  | _ => none }
def fnExactLowestCellsRow : OpenClaim := { program := "ytomciiimkdaecaa", sum := "59bb0a40cf5a37d37372349de2fe9ba98253a7f51332945b42ef4f808533e5be", func := "loop.example/g01032/laws.FnExactLowestCells", spec := "fnExactLowestCells", unfollowed := true, recurses := true, apart := false }
def FnExactLowestCellsSaid : Prop := fnExactLowestCellsRow.holds Try.pinned (OpenSpec.ofChange fnExactLowestCellsSpec)

/-- ITS FALSE NEIGHBOUR: 'it returns false'. Refute it at one input. -/
def fnExactLowestCellsWrong : ChangeSpec := { name := "fnExactLowestCells", fn := fun _ => fun
  | [d] => { results := [.lit (.bool false)], args := [d] }
  | _ => none }
def FnExactLowestCellsWrongFalsely : Prop := fnExactLowestCellsRow.holds Try.pinned (OpenSpec.ofChange fnExactLowestCellsWrong)

/-- 'laws.FnExactSetHeight': WHATEVER THE INPUT: true; the input reads as it did. -/
def fnExactSetHeightSpec : ChangeSpec := { name := "fnExactSetHeight", fn := fun _ => fun
  | [d1, d2, d3, d4] => { results := [.lit (.bool true)], args := [d1, d2, d3, d4] }
  | _ => none }
def fnExactSetHeightRow : OpenClaim := { program := "ytomciiimkdaecaa", sum := "59bb0a40cf5a37d37372349de2fe9ba98253a7f51332945b42ef4f808533e5be", func := "loop.example/g01032/laws.FnExactSetHeight", spec := "fnExactSetHeight", unfollowed := true, recurses := true, apart := false }
def FnExactSetHeightSaid : Prop := fnExactSetHeightRow.holds Try.pinned (OpenSpec.ofChange fnExactSetHeightSpec)

/-- ITS FALSE NEIGHBOUR: 'it returns false'. Refute it at one input. -/
def fnExactSetHeightWrong : ChangeSpec := { name := "fnExactSetHeight", fn := fun _ => fun
  | [d1, d2, d3, d4] => { results := [.lit (.bool false)], args := [d1, d2, d3, d4] }
  | _ => none }
def FnExactSetHeightWrongFalsely : Prop := fnExactSetHeightRow.holds Try.pinned (OpenSpec.ofChange fnExactSetHeightWrong)

/-- 'laws.FnExactRaiseLand': WHATEVER THE INPUT: true; the input reads as it did. -/
def fnExactRaiseLandSpec : ChangeSpec := { name := "fnExactRaiseLand", fn := fun _ => fun
  | [d1, d2] => { results := [.lit (.bool true)], args := [d1, d2] }
  | _ => none }
def fnExactRaiseLandRow : OpenClaim := { program := "ytomciiimkdaecaa", sum := "59bb0a40cf5a37d37372349de2fe9ba98253a7f51332945b42ef4f808533e5be", func := "loop.example/g01032/laws.FnExactRaiseLand", spec := "fnExactRaiseLand", unfollowed := true, recurses := true, apart := false }
def FnExactRaiseLandSaid : Prop := fnExactRaiseLandRow.holds Try.pinned (OpenSpec.ofChange fnExactRaiseLandSpec)

/-- ITS FALSE NEIGHBOUR: 'it returns false'. Refute it at one input. -/
def fnExactRaiseLandWrong : ChangeSpec := { name := "fnExactRaiseLand", fn := fun _ => fun
  | [d1, d2] => { results := [.lit (.bool false)], args := [d1, d2] }
  | _ => none }
def FnExactRaiseLandWrongFalsely : Prop := fnExactRaiseLandRow.holds Try.pinned (OpenSpec.ofChange fnExactRaiseLandWrong)

/-- 'laws.FnExactCurveOfLand': WHATEVER THE INPUT: true; the input reads as it did. -/
def fnExactCurveOfLandSpec : ChangeSpec := { name := "fnExactCurveOfLand", fn := fun _ => fun
  | [d1, d2, d3, d4] => { results := [.lit (.bool true)], args := [d1, d2, d3, d4] }
  | _ => none }
def fnExactCurveOfLandRow : OpenClaim := { program := "ytomciiimkdaecaa", sum := "59bb0a40cf5a37d37372349de2fe9ba98253a7f51332945b42ef4f808533e5be", func := "loop.example/g01032/laws.FnExactCurveOfLand", spec := "fnExactCurveOfLand", unfollowed := true, recurses := true, apart := false }
def FnExactCurveOfLandSaid : Prop := fnExactCurveOfLandRow.holds Try.pinned (OpenSpec.ofChange fnExactCurveOfLandSpec)

/-- ITS FALSE NEIGHBOUR: 'it returns false'. Refute it at one input. -/
def fnExactCurveOfLandWrong : ChangeSpec := { name := "fnExactCurveOfLand", fn := fun _ => fun
  | [d1, d2, d3, d4] => { results := [.lit (.bool false)], args := [d1, d2, d3, d4] }
  | _ => none }
def FnExactCurveOfLandWrongFalsely : Prop := fnExactCurveOfLandRow.holds Try.pinned (OpenSpec.ofChange fnExactCurveOfLandWrong)

/- THE SECOND FORM. 'bulk': how many values and letters a reading holds, each counted each time it is reached (what is shared counts as often as it is met; a slice's spare places count too). A statement '..UptoSaid' is the law's where the arguments, and the package variables that the reading takes, are together of bulk at most 1048576: NARROWER than '..Said'. Prove '..Said' where nothing that the law and all that it calls make is longer than what came in: it says more and counts as full. Else prove '..UptoSaid'. A law counts once. -/
mutual
def uptoBulk {H : Type} : DataW H → Nat
  | .lit (.string bytes) => bytes.length + 1
  | .lit _ => 1
  | .nil => 1
  | .ptr d => uptoBulk d + 1
  | .slice elems spare => uptoBulkAll elems + uptoBulkAll spare + 1
  | .agg parts => uptoBulkAll parts + 1
  | .iface _ d => uptoBulk d + 1
  | .map entries => uptoBulkEntries entries + 1
  | .held _ => 1
def uptoBulkAll {H : Type} : List (DataW H) → Nat
  | [] => 0
  | d :: r => uptoBulk d + uptoBulkAll r
def uptoBulkEntries {H : Type} : List (Lit × DataW H) → Nat
  | [] => 0
  | x :: r => uptoBulkEntry x + uptoBulkEntries r
def uptoBulkEntry {H : Type} : Lit × DataW H → Nat
  | (.string bytes, d) => bytes.length + uptoBulk d + 1
  | (_, d) => uptoBulk d + 1
 end
def uptoSmall : (H : Type) → List (DataW H) → Bool := fun _ ds => decide (uptoBulkAll ds ≤ 1048576)
def OpenSpec.upto (s : _root_.Go.ChangeSpec) : _root_.Go.OpenSpec := { _root_.Go.OpenSpec.ofChange s with cond := some uptoSmall }

/-- 'laws.FnExactSameLand', WHERE WHAT IT READS IS OF BULK AT MOST 1048576: true; the input reads as it did. -/
def fnExactSameLandUptoRow : OpenClaim := { program := "ytomciiimkdaecaa", sum := "59bb0a40cf5a37d37372349de2fe9ba98253a7f51332945b42ef4f808533e5be", func := "loop.example/g01032/laws.FnExactSameLand", spec := "fnExactSameLand", apart := false, narrowed := true }
def FnExactSameLandUptoSaid : Prop := fnExactSameLandUptoRow.holds Try.pinned (OpenSpec.upto fnExactSameLandSpec)

/-- 'laws.FnExactValidLand', WHERE WHAT IT READS IS OF BULK AT MOST 1048576: true; the input reads as it did. -/
def fnExactValidLandUptoRow : OpenClaim := { program := "ytomciiimkdaecaa", sum := "59bb0a40cf5a37d37372349de2fe9ba98253a7f51332945b42ef4f808533e5be", func := "loop.example/g01032/laws.FnExactValidLand", spec := "fnExactValidLand", unfollowed := true, recurses := true, apart := false, narrowed := true }
def FnExactValidLandUptoSaid : Prop := fnExactValidLandUptoRow.holds Try.pinned (OpenSpec.upto fnExactValidLandSpec)

/-- 'laws.FnExactHeightAt', WHERE WHAT IT READS IS OF BULK AT MOST 1048576: true; the input reads as it did. -/
def fnExactHeightAtUptoRow : OpenClaim := { program := "ytomciiimkdaecaa", sum := "59bb0a40cf5a37d37372349de2fe9ba98253a7f51332945b42ef4f808533e5be", func := "loop.example/g01032/laws.FnExactHeightAt", spec := "fnExactHeightAt", unfollowed := true, recurses := true, apart := false, narrowed := true }
def FnExactHeightAtUptoSaid : Prop := fnExactHeightAtUptoRow.holds Try.pinned (OpenSpec.upto fnExactHeightAtSpec)

/-- 'laws.FnExactCellsBelow', WHERE WHAT IT READS IS OF BULK AT MOST 1048576: true; the input reads as it did. -/
def fnExactCellsBelowUptoRow : OpenClaim := { program := "ytomciiimkdaecaa", sum := "59bb0a40cf5a37d37372349de2fe9ba98253a7f51332945b42ef4f808533e5be", func := "loop.example/g01032/laws.FnExactCellsBelow", spec := "fnExactCellsBelow", unfollowed := true, recurses := true, apart := false, narrowed := true }
def FnExactCellsBelowUptoSaid : Prop := fnExactCellsBelowUptoRow.holds Try.pinned (OpenSpec.upto fnExactCellsBelowSpec)

/-- 'laws.FnExactVolumeBelow', WHERE WHAT IT READS IS OF BULK AT MOST 1048576: true; the input reads as it did. -/
def fnExactVolumeBelowUptoRow : OpenClaim := { program := "ytomciiimkdaecaa", sum := "59bb0a40cf5a37d37372349de2fe9ba98253a7f51332945b42ef4f808533e5be", func := "loop.example/g01032/laws.FnExactVolumeBelow", spec := "fnExactVolumeBelow", unfollowed := true, recurses := true, apart := false, narrowed := true }
def FnExactVolumeBelowUptoSaid : Prop := fnExactVolumeBelowUptoRow.holds Try.pinned (OpenSpec.upto fnExactVolumeBelowSpec)

/-- 'laws.FnExactLevelFor', WHERE WHAT IT READS IS OF BULK AT MOST 1048576: true; the input reads as it did. -/
def fnExactLevelForUptoRow : OpenClaim := { program := "ytomciiimkdaecaa", sum := "59bb0a40cf5a37d37372349de2fe9ba98253a7f51332945b42ef4f808533e5be", func := "loop.example/g01032/laws.FnExactLevelFor", spec := "fnExactLevelFor", unfollowed := true, recurses := true, apart := false, narrowed := true }
def FnExactLevelForUptoSaid : Prop := fnExactLevelForUptoRow.holds Try.pinned (OpenSpec.upto fnExactLevelForSpec)

/-- 'laws.FnExactLowestCells', WHERE WHAT IT READS IS OF BULK AT MOST 1048576: true; the input reads as it did. -/
def fnExactLowestCellsUptoRow : OpenClaim := { program := "ytomciiimkdaecaa", sum := "59bb0a40cf5a37d37372349de2fe9ba98253a7f51332945b42ef4f808533e5be", func := "loop.example/g01032/laws.FnExactLowestCells", spec := "fnExactLowestCells", unfollowed := true, recurses := true, apart := false, narrowed := true }
def FnExactLowestCellsUptoSaid : Prop := fnExactLowestCellsUptoRow.holds Try.pinned (OpenSpec.upto fnExactLowestCellsSpec)

/-- 'laws.FnExactSetHeight', WHERE WHAT IT READS IS OF BULK AT MOST 1048576: true; the input reads as it did. -/
def fnExactSetHeightUptoRow : OpenClaim := { program := "ytomciiimkdaecaa", sum := "59bb0a40cf5a37d37372349de2fe9ba98253a7f51332945b42ef4f808533e5be", func := "loop.example/g01032/laws.FnExactSetHeight", spec := "fnExactSetHeight", unfollowed := true, recurses := true, apart := false, narrowed := true }
def FnExactSetHeightUptoSaid : Prop := fnExactSetHeightUptoRow.holds Try.pinned (OpenSpec.upto fnExactSetHeightSpec)

/-- 'laws.FnExactRaiseLand', WHERE WHAT IT READS IS OF BULK AT MOST 1048576: true; the input reads as it did. -/
def fnExactRaiseLandUptoRow : OpenClaim := { program := "ytomciiimkdaecaa", sum := "59bb0a40cf5a37d37372349de2fe9ba98253a7f51332945b42ef4f808533e5be", func := "loop.example/g01032/laws.FnExactRaiseLand", spec := "fnExactRaiseLand", unfollowed := true, recurses := true, apart := false, narrowed := true }
def FnExactRaiseLandUptoSaid : Prop := fnExactRaiseLandUptoRow.holds Try.pinned (OpenSpec.upto fnExactRaiseLandSpec)

/-- 'laws.FnExactCurveOfLand', WHERE WHAT IT READS IS OF BULK AT MOST 1048576: true; the input reads as it did. -/
def fnExactCurveOfLandUptoRow : OpenClaim := { program := "ytomciiimkdaecaa", sum := "59bb0a40cf5a37d37372349de2fe9ba98253a7f51332945b42ef4f808533e5be", func := "loop.example/g01032/laws.FnExactCurveOfLand", spec := "fnExactCurveOfLand", unfollowed := true, recurses := true, apart := false, narrowed := true }
def FnExactCurveOfLandUptoSaid : Prop := fnExactCurveOfLandUptoRow.holds Try.pinned (OpenSpec.upto fnExactCurveOfLandSpec)

end Rows
end Go.Proofs.Ytomciiimkdaecaa
