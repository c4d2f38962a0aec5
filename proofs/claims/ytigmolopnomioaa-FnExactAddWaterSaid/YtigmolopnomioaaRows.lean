/-
  No cell of these rows narrows 'for every input' (looked for: loops, veiled, ifaces, maps, wideKeys, modest, calm, conditions, laid).
  DERIVED. THE GIVEN ROWS OF THIS SEAT. 7 by the template 'for every input the law returns true; each argument reads behind the call as it read before'; 0 by the template 'total and deterministic' (their statements: YtigmolopnomioaaTotals.lean).
  GIVEN WITH THE SEED: the statements are not yours to turn. If you find one false, say at which input.
  Laid BY PROGRAM, IN A SANDBOX (cutbox-rows.mjs): the forced cells as the released guide's own fill.sh prints them over the translation 82f1da5cdef65a22… (all of the seat's roots in one cut). By AI agents, Wed Nov 11 2026. No macro, syntax, notation, axiom, sorry.
-/
import Derived.Test.YtigmolopnomioaaChecked
import GoSem.Claim
import GoSem.ClaimJoined
import GoSem.ClaimMapViews
import Derived.JoinedTies
import Derived.KernelRfl
namespace Go.Proofs.Ytigmolopnomioaa
/- THE CELL 'sum', in the pinned program and in every row, IS THE sha256 OF THE DUMP (.gsa) THAT YtigmolopnomioaaProg.lean LOADS. Nothing in Lean hashes anything: it is a label: what it is worth is what the hold of that sum in a sandbox is worth. -/
noncomputable def Try.pinned : Pinned := { name := "ytigmolopnomioaa", sum := "82f1da5cdef65a2263e79e26dd0cff431059ddb58fbe59ec4d08eb9825ba67b6", checked := Try.checked }
namespace Rows
def none {H : Type} : Left H := { results := [], args := [] }

/-- 'laws.FnExactVolumeAt': WHATEVER THE INPUT: true; the input reads as it did. -/
def fnExactVolumeAtSpec : ChangeSpec := { name := "fnExactVolumeAt", fn := fun _ => fun
  | [d1, d2] => { results := [.lit (.bool true)], args := [d1, d2] }
  | _ => none }
def fnExactVolumeAtRow : OpenClaim := { program := "ytigmolopnomioaa", sum := "82f1da5cdef65a2263e79e26dd0cff431059ddb58fbe59ec4d08eb9825ba67b6", func := "loop.example/g01032/laws.FnExactVolumeAt", spec := "fnExactVolumeAt", apart := false }
def FnExactVolumeAtSaid : Prop := fnExactVolumeAtRow.holds Try.pinned (OpenSpec.ofChange fnExactVolumeAtSpec)

/-- ITS FALSE NEIGHBOUR: 'it returns false'. Refute it at one input. -/
def fnExactVolumeAtWrong : ChangeSpec := { name := "fnExactVolumeAt", fn := fun _ => fun
  | [d1, d2] => { results := [.lit (.bool false)], args := [d1, d2] }
  | _ => none }
def FnExactVolumeAtWrongFalsely : Prop := fnExactVolumeAtRow.holds Try.pinned (OpenSpec.ofChange fnExactVolumeAtWrong)

/-- 'laws.FnExactSpaceTo': WHATEVER THE INPUT: true; the input reads as it did. -/
def fnExactSpaceToSpec : ChangeSpec := { name := "fnExactSpaceTo", fn := fun _ => fun
  | [d1, d2, d3] => { results := [.lit (.bool true)], args := [d1, d2, d3] }
  | _ => none }
def fnExactSpaceToRow : OpenClaim := { program := "ytigmolopnomioaa", sum := "82f1da5cdef65a2263e79e26dd0cff431059ddb58fbe59ec4d08eb9825ba67b6", func := "loop.example/g01032/laws.FnExactSpaceTo", spec := "fnExactSpaceTo", apart := false }
def FnExactSpaceToSaid : Prop := fnExactSpaceToRow.holds Try.pinned (OpenSpec.ofChange fnExactSpaceToSpec)

/-- ITS FALSE NEIGHBOUR: 'it returns false'. Refute it at one input. -/
def fnExactSpaceToWrong : ChangeSpec := { name := "fnExactSpaceTo", fn := fun _ => fun
  | [d1, d2, d3] => { results := [.lit (.bool false)], args := [d1, d2, d3] }
  | _ => none }
def FnExactSpaceToWrongFalsely : Prop := fnExactSpaceToRow.holds Try.pinned (OpenSpec.ofChange fnExactSpaceToWrong)

/-- 'laws.FnExactLevelAt': WHATEVER THE INPUT: true; the input reads as it did. -/
def fnExactLevelAtSpec : ChangeSpec := { name := "fnExactLevelAt", fn := fun _ => fun
  | [d1, d2] => { results := [.lit (.bool true)], args := [d1, d2] }
  | _ => none }
def fnExactLevelAtRow : OpenClaim := { program := "ytigmolopnomioaa", sum := "82f1da5cdef65a2263e79e26dd0cff431059ddb58fbe59ec4d08eb9825ba67b6", func := "loop.example/g01032/laws.FnExactLevelAt", spec := "fnExactLevelAt", apart := false }
def FnExactLevelAtSaid : Prop := fnExactLevelAtRow.holds Try.pinned (OpenSpec.ofChange fnExactLevelAtSpec)

/-- ITS FALSE NEIGHBOUR: 'it returns false'. Refute it at one input. -/
def fnExactLevelAtWrong : ChangeSpec := { name := "fnExactLevelAt", fn := fun _ => fun
  | [d1, d2] => { results := [.lit (.bool false)], args := [d1, d2] }
  | _ => none }
def FnExactLevelAtWrongFalsely : Prop := fnExactLevelAtRow.holds Try.pinned (OpenSpec.ofChange fnExactLevelAtWrong)

/-- 'laws.FnExactHoursToEmpty': WHATEVER THE INPUT: true; the input reads as it did. -/
def fnExactHoursToEmptySpec : ChangeSpec := { name := "fnExactHoursToEmpty", fn := fun _ => fun
  | [d1, d2, d3, d4] => { results := [.lit (.bool true)], args := [d1, d2, d3, d4] }
  | _ => none }
def fnExactHoursToEmptyRow : OpenClaim := { program := "ytigmolopnomioaa", sum := "82f1da5cdef65a2263e79e26dd0cff431059ddb58fbe59ec4d08eb9825ba67b6", func := "loop.example/g01032/laws.FnExactHoursToEmpty", spec := "fnExactHoursToEmpty", apart := false }
def FnExactHoursToEmptySaid : Prop := fnExactHoursToEmptyRow.holds Try.pinned (OpenSpec.ofChange fnExactHoursToEmptySpec)

/-- ITS FALSE NEIGHBOUR: 'it returns false'. Refute it at one input. -/
def fnExactHoursToEmptyWrong : ChangeSpec := { name := "fnExactHoursToEmpty", fn := fun _ => fun
  | [d1, d2, d3, d4] => { results := [.lit (.bool false)], args := [d1, d2, d3, d4] }
  | _ => none }
def FnExactHoursToEmptyWrongFalsely : Prop := fnExactHoursToEmptyRow.holds Try.pinned (OpenSpec.ofChange fnExactHoursToEmptyWrong)

/-- 'laws.FnExactAreaAt': WHATEVER THE INPUT: true; the input reads as it did. -/
def fnExactAreaAtSpec : ChangeSpec := { name := "fnExactAreaAt", fn := fun _ => fun
  | [d1, d2] => { results := [.lit (.bool true)], args := [d1, d2] }
  | _ => none }
def fnExactAreaAtRow : OpenClaim := { program := "ytigmolopnomioaa", sum := "82f1da5cdef65a2263e79e26dd0cff431059ddb58fbe59ec4d08eb9825ba67b6", func := "loop.example/g01032/laws.FnExactAreaAt", spec := "fnExactAreaAt", apart := false }
def FnExactAreaAtSaid : Prop := fnExactAreaAtRow.holds Try.pinned (OpenSpec.ofChange fnExactAreaAtSpec)

/-- ITS FALSE NEIGHBOUR: 'it returns false'. Refute it at one input. -/
def fnExactAreaAtWrong : ChangeSpec := { name := "fnExactAreaAt", fn := fun _ => fun
  | [d1, d2] => { results := [.lit (.bool false)], args := [d1, d2] }
  | _ => none }
def FnExactAreaAtWrongFalsely : Prop := fnExactAreaAtRow.holds Try.pinned (OpenSpec.ofChange fnExactAreaAtWrong)

/-- 'laws.FnExactAddWater': WHATEVER THE INPUT: true; the input reads as it did. -/
def fnExactAddWaterSpec : ChangeSpec := { name := "fnExactAddWater", fn := fun _ => fun
  | [d1, d2, d3] => { results := [.lit (.bool true)], args := [d1, d2, d3] }
  | _ => none }
def fnExactAddWaterRow : OpenClaim := { program := "ytigmolopnomioaa", sum := "82f1da5cdef65a2263e79e26dd0cff431059ddb58fbe59ec4d08eb9825ba67b6", func := "loop.example/g01032/laws.FnExactAddWater", spec := "fnExactAddWater", apart := false }
def FnExactAddWaterSaid : Prop := fnExactAddWaterRow.holds Try.pinned (OpenSpec.ofChange fnExactAddWaterSpec)

/-- ITS FALSE NEIGHBOUR: 'it returns false'. Refute it at one input. -/
def fnExactAddWaterWrong : ChangeSpec := { name := "fnExactAddWater", fn := fun _ => fun
  | [d1, d2, d3] => { results := [.lit (.bool false)], args := [d1, d2, d3] }
  | _ => none }
def FnExactAddWaterWrongFalsely : Prop := fnExactAddWaterRow.holds Try.pinned (OpenSpec.ofChange fnExactAddWaterWrong)

/-- 'laws.FnExactJoinCurves': WHATEVER THE INPUT: true; the input reads as it did. -/
def fnExactJoinCurvesSpec : ChangeSpec := { name := "fnExactJoinCurves", fn := fun _ => fun
  | [d1, d2] => { results := [.lit (.bool true)], args := [d1, d2] }
  | _ => none }
def fnExactJoinCurvesRow : OpenClaim := { program := "ytigmolopnomioaa", sum := "82f1da5cdef65a2263e79e26dd0cff431059ddb58fbe59ec4d08eb9825ba67b6", func := "loop.example/g01032/laws.FnExactJoinCurves", spec := "fnExactJoinCurves", apart := false }
def FnExactJoinCurvesSaid : Prop := fnExactJoinCurvesRow.holds Try.pinned (OpenSpec.ofChange fnExactJoinCurvesSpec)

/-- ITS FALSE NEIGHBOUR: 'it returns false'. Refute it at one input. -/
def fnExactJoinCurvesWrong : ChangeSpec := { name := "fnExactJoinCurves", fn := fun _ => fun
  | [d1, d2] => { results := [.lit (.bool false)], args := [d1, d2] }
  | _ => none }
def FnExactJoinCurvesWrongFalsely : Prop := fnExactJoinCurvesRow.holds Try.pinned (OpenSpec.ofChange fnExactJoinCurvesWrong)

/- THE SECOND FORM. 'bulk': how many values and letters a reading holds, each counted each time it is reached (what is shared counts as often as it is met; a slice's spare places count too). A statement '..UptoSaid' is the law's where the arguments, and the package variables that the reading takes, are together of bulk at most 1048576: NARROWER than '..Said'. Prove '..Said' where nothing that the law and all that it calls make is longer than what came in: it says more and counts as full. Else prove '..UptoSaid'. A law counts once. -/
mutual
def uptoBulk {H : Type} : DataW H → Nat
  | .lit (.string bytes) => bytes.length + 1
  | .lit _ => 1
  | .nil => 1
  | .ptr d => uptoBulk d + 1
  | .slice elems spare => uptoBulkAll elems + uptoBulkAll spare + 1
  | .agg parts => uptoBulkAll parts + 1
  | .iface _ d => uptoBulk d + 1
  | .map entries => uptoBulkEntries entries + 1
  | .held _ => 1
def uptoBulkAll {H : Type} : List (DataW H) → Nat
  | [] => 0
  | d :: r => uptoBulk d + uptoBulkAll r
def uptoBulkEntries {H : Type} : List (Lit × DataW H) → Nat
  | [] => 0
  | x :: r => uptoBulkEntry x + uptoBulkEntries r
def uptoBulkEntry {H : Type} : Lit × DataW H → Nat
  | (.string bytes, d) => bytes.length + uptoBulk d + 1
  | (_, d) => uptoBulk d + 1
 end
def uptoSmall : (H : Type) → List (DataW H) → Bool := fun _ ds => decide (uptoBulkAll ds ≤ 1048576)
def OpenSpec.upto (s : _root_.Go.ChangeSpec) : _root_.Go.OpenSpec := { _root_.Go.OpenSpec.ofChange s with cond := some uptoSmall }

/-- 'laws.FnExactVolumeAt', WHERE WHAT IT READS IS OF BULK AT MOST 1048576: true; the input reads as it did. -/
def fnExactVolumeAtUptoRow : OpenClaim := { program := "ytigmolopnomioaa", sum := "82f1da5cdef65a2263e79e26dd0cff431059ddb58fbe59ec4d08eb9825ba67b6", func := "loop.example/g01032/laws.FnExactVolumeAt", spec := "fnExactVolumeAt", apart := false, narrowed := true }
def FnExactVolumeAtUptoSaid : Prop := fnExactVolumeAtUptoRow.holds Try.pinned (OpenSpec.upto fnExactVolumeAtSpec)

/-- 'laws.FnExactSpaceTo', WHERE WHAT IT READS IS OF BULK AT MOST 1048576: true; the input reads as it did. -/
def fnExactSpaceToUptoRow : OpenClaim := { program := "ytigmolopnomioaa", sum := "82f1da5cdef65a2263e79e26dd0cff431059ddb58fbe59ec4d08eb9825ba67b6", func := "loop.example/g01032/laws.FnExactSpaceTo", spec := "fnExactSpaceTo", apart := false, narrowed := true }
def FnExactSpaceToUptoSaid : Prop := fnExactSpaceToUptoRow.holds Try.pinned (OpenSpec.upto fnExactSpaceToSpec)

/-- 'laws.FnExactLevelAt', WHERE WHAT IT READS IS OF BULK AT MOST 1048576: true; the input reads as it did. -/
def fnExactLevelAtUptoRow : OpenClaim := { program := "ytigmolopnomioaa", sum := "82f1da5cdef65a2263e79e26dd0cff431059ddb58fbe59ec4d08eb9825ba67b6", func := "loop.example/g01032/laws.FnExactLevelAt", spec := "fnExactLevelAt", apart := false, narrowed := true }
def FnExactLevelAtUptoSaid : Prop := fnExactLevelAtUptoRow.holds Try.pinned (OpenSpec.upto fnExactLevelAtSpec)

/-- 'laws.FnExactHoursToEmpty', WHERE WHAT IT READS IS OF BULK AT MOST 1048576: true; the input reads as it did. -/
def fnExactHoursToEmptyUptoRow : OpenClaim := { program := "ytigmolopnomioaa", sum := "82f1da5cdef65a2263e79e26dd0cff431059ddb58fbe59ec4d08eb9825ba67b6", func := "loop.example/g01032/laws.FnExactHoursToEmpty", spec := "fnExactHoursToEmpty", apart := false, narrowed := true }
def FnExactHoursToEmptyUptoSaid : Prop := fnExactHoursToEmptyUptoRow.holds Try.pinned (OpenSpec.upto fnExactHoursToEmptySpec)

/-- 'laws.FnExactAreaAt', WHERE WHAT IT READS IS OF BULK AT MOST 1048576: true; the input reads as it did. -/
def fnExactAreaAtUptoRow : OpenClaim := { program := "ytigmolopnomioaa", sum := "82f1da5cdef65a2263e79e26dd0cff431059ddb58fbe59ec4d08eb9825ba67b6", func := "loop.example/g01032/laws.FnExactAreaAt", spec := "fnExactAreaAt", apart := false, narrowed := true }
def FnExactAreaAtUptoSaid : Prop := fnExactAreaAtUptoRow.holds Try.pinned (OpenSpec.upto fnExactAreaAtSpec)

/-- 'laws.FnExactAddWater', WHERE WHAT IT READS IS OF BULK AT MOST 1048576: true; the input reads as it did. -/
def fnExactAddWaterUptoRow : OpenClaim := { program := "ytigmolopnomioaa", sum := "82f1da5cdef65a2263e79e26dd0cff431059ddb58fbe59ec4d08eb9825ba67b6", func := "loop.example/g01032/laws.FnExactAddWater", spec := "fnExactAddWater", apart := false, narrowed := true }
def FnExactAddWaterUptoSaid : Prop := fnExactAddWaterUptoRow.holds Try.pinned (OpenSpec.upto fnExactAddWaterSpec)

/-- 'laws.FnExactJoinCurves', WHERE WHAT IT READS IS OF BULK AT MOST 1048576: true; the input reads as it did. -/
def fnExactJoinCurvesUptoRow : OpenClaim := { program := "ytigmolopnomioaa", sum := "82f1da5cdef65a2263e79e26dd0cff431059ddb58fbe59ec4d08eb9825ba67b6", func := "loop.example/g01032/laws.FnExactJoinCurves", spec := "fnExactJoinCurves", apart := false, narrowed := true }
def FnExactJoinCurvesUptoSaid : Prop := fnExactJoinCurvesUptoRow.holds Try.pinned (OpenSpec.upto fnExactJoinCurvesSpec)

end Rows
end Go.Proofs.Ytigmolopnomioaa
