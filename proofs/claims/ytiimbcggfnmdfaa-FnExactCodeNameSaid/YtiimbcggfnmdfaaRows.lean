/-
  No cell of these rows narrows 'for every input' (looked for: loops, veiled, ifaces, maps, wideKeys, modest, calm, conditions, laid).
  DERIVED. THE GIVEN ROWS OF THIS SEAT. 6 by the template 'for every input the law returns true; each argument reads behind the call as it read before'; 0 by the template 'total and deterministic' (their statements: YtiimbcggfnmdfaaTotals.lean).
  GIVEN WITH THE SEED: the statements are not yours to turn. If you find one false, say at which input.
  Laid BY PROGRAM, IN A SANDBOX (cutbox-rows.mjs): the forced cells as the released guide's own fill.sh prints them over the translation c65eda563687d887… (all of the seat's roots in one cut). By AI agents, Wed Nov 11 2026. No macro, syntax, notation, axiom, sorry.
-/
import Derived.Test.YtiimbcggfnmdfaaChecked
import GoSem.Claim
import GoSem.ClaimJoined
import GoSem.ClaimMapViews
import Derived.JoinedTies
import Derived.KernelRfl
namespace Go.Proofs.Ytiimbcggfnmdfaa
/- THE CELL 'sum', in the pinned program and in every row, IS THE sha256 OF THE DUMP (.gsa) THAT YtiimbcggfnmdfaaProg.lean LOADS. Nothing in Lean hashes anything: it is a label: what it is worth is what the hold of that sum in a sandbox is worth. -/
noncomputable def Try.pinned : Pinned := { name := "ytiimbcggfnmdfaa", sum := "c65eda563687d887e45970592564a631f002a5fe658c8357b92eac8bbb337dac", checked := Try.checked }
namespace Rows
def none {H : Type} : Left H := { results := [], args := [] }

/-- 'laws.FnExactConstants': WHATEVER THE INPUT: true; the input reads as it did. -/
def fnExactConstantsSpec : ChangeSpec := { name := "fnExactConstants", fn := fun _ => fun
  | [] => { results := [.lit (.bool true)], args := [] }
  | _ => none }
def fnExactConstantsRow : OpenClaim := { program := "ytiimbcggfnmdfaa", sum := "c65eda563687d887e45970592564a631f002a5fe658c8357b92eac8bbb337dac", func := "loop.example/g01032/laws.FnExactConstants", spec := "fnExactConstants", apart := false }
def FnExactConstantsSaid : Prop := fnExactConstantsRow.holds Try.pinned (OpenSpec.ofChange fnExactConstantsSpec)

/-- ITS FALSE NEIGHBOUR: 'it returns false'. Refute it at one input. -/
def fnExactConstantsWrong : ChangeSpec := { name := "fnExactConstants", fn := fun _ => fun
  | [] => { results := [.lit (.bool false)], args := [] }
  | _ => none }
def FnExactConstantsWrongFalsely : Prop := fnExactConstantsRow.holds Try.pinned (OpenSpec.ofChange fnExactConstantsWrong)

/-- 'laws.FnExactValidDay': WHATEVER THE INPUT: true; the input reads as it did. -/
def fnExactValidDaySpec : ChangeSpec := { name := "fnExactValidDay", fn := fun _ => fun
  | [d] => { results := [.lit (.bool true)], args := [d] }
  | _ => none }
def fnExactValidDayRow : OpenClaim := { program := "ytiimbcggfnmdfaa", sum := "c65eda563687d887e45970592564a631f002a5fe658c8357b92eac8bbb337dac", func := "loop.example/g01032/laws.FnExactValidDay", spec := "fnExactValidDay", apart := false }
def FnExactValidDaySaid : Prop := fnExactValidDayRow.holds Try.pinned (OpenSpec.ofChange fnExactValidDaySpec)

/-- ITS FALSE NEIGHBOUR: 'it returns false'. Refute it at one input. -/
def fnExactValidDayWrong : ChangeSpec := { name := "fnExactValidDay", fn := fun _ => fun
  | [d] => { results := [.lit (.bool false)], args := [d] }
  | _ => none }
def FnExactValidDayWrongFalsely : Prop := fnExactValidDayRow.holds Try.pinned (OpenSpec.ofChange fnExactValidDayWrong)

/-- 'laws.FnExactValidLevel': WHATEVER THE INPUT: true; the input reads as it did. -/
def fnExactValidLevelSpec : ChangeSpec := { name := "fnExactValidLevel", fn := fun _ => fun
  | [d] => { results := [.lit (.bool true)], args := [d] }
  | _ => none }
def fnExactValidLevelRow : OpenClaim := { program := "ytiimbcggfnmdfaa", sum := "c65eda563687d887e45970592564a631f002a5fe658c8357b92eac8bbb337dac", func := "loop.example/g01032/laws.FnExactValidLevel", spec := "fnExactValidLevel", apart := false }
def FnExactValidLevelSaid : Prop := fnExactValidLevelRow.holds Try.pinned (OpenSpec.ofChange fnExactValidLevelSpec)

/-- ITS FALSE NEIGHBOUR: 'it returns false'. Refute it at one input. -/
def fnExactValidLevelWrong : ChangeSpec := { name := "fnExactValidLevel", fn := fun _ => fun
  | [d] => { results := [.lit (.bool false)], args := [d] }
  | _ => none }
def FnExactValidLevelWrongFalsely : Prop := fnExactValidLevelRow.holds Try.pinned (OpenSpec.ofChange fnExactValidLevelWrong)

/-- 'laws.FnExactCodeName': WHATEVER THE INPUT: true; the input reads as it did. -/
def fnExactCodeNameSpec : ChangeSpec := { name := "fnExactCodeName", fn := fun _ => fun
  | [d] => { results := [.lit (.bool true)], args := [d] }
  | _ => none }
def fnExactCodeNameRow : OpenClaim := { program := "ytiimbcggfnmdfaa", sum := "c65eda563687d887e45970592564a631f002a5fe658c8357b92eac8bbb337dac", func := "loop.example/g01032/laws.FnExactCodeName", spec := "fnExactCodeName", apart := false }
def FnExactCodeNameSaid : Prop := fnExactCodeNameRow.holds Try.pinned (OpenSpec.ofChange fnExactCodeNameSpec)

/-- ITS FALSE NEIGHBOUR: 'it returns false'. Refute it at one input. -/
def fnExactCodeNameWrong : ChangeSpec := { name := "fnExactCodeName", fn := fun _ => fun
  | [d] => { results := [.lit (.bool false)], args := [d] }
  | _ => none }
def FnExactCodeNameWrongFalsely : Prop := fnExactCodeNameRow.holds Try.pinned (OpenSpec.ofChange fnExactCodeNameWrong)

/-- 'laws.FnExactRainOn': WHATEVER THE INPUT: true; the input reads as it did. -/
def fnExactRainOnSpec : ChangeSpec := { name := "fnExactRainOn", fn := fun _ => fun
  | [d1, d2] => { results := [.lit (.bool true)], args := [d1, d2] }
  | _ => none }
def fnExactRainOnRow : OpenClaim := { program := "ytiimbcggfnmdfaa", sum := "c65eda563687d887e45970592564a631f002a5fe658c8357b92eac8bbb337dac", func := "loop.example/g01032/laws.FnExactRainOn", spec := "fnExactRainOn", apart := false }
def FnExactRainOnSaid : Prop := fnExactRainOnRow.holds Try.pinned (OpenSpec.ofChange fnExactRainOnSpec)

/-- ITS FALSE NEIGHBOUR: 'it returns false'. Refute it at one input. -/
def fnExactRainOnWrong : ChangeSpec := { name := "fnExactRainOn", fn := fun _ => fun
  | [d1, d2] => { results := [.lit (.bool false)], args := [d1, d2] }
  | _ => none }
def FnExactRainOnWrongFalsely : Prop := fnExactRainOnRow.holds Try.pinned (OpenSpec.ofChange fnExactRainOnWrong)

/-- 'laws.FnExactLevelOfGauge': WHATEVER THE INPUT: true; the input reads as it did. -/
def fnExactLevelOfGaugeSpec : ChangeSpec := { name := "fnExactLevelOfGauge", fn := fun _ => fun
  | [d1, d2] => { results := [.lit (.bool true)], args := [d1, d2] }
  | _ => none }
def fnExactLevelOfGaugeRow : OpenClaim := { program := "ytiimbcggfnmdfaa", sum := "c65eda563687d887e45970592564a631f002a5fe658c8357b92eac8bbb337dac", func := "loop.example/g01032/laws.FnExactLevelOfGauge", spec := "fnExactLevelOfGauge", apart := false }
def FnExactLevelOfGaugeSaid : Prop := fnExactLevelOfGaugeRow.holds Try.pinned (OpenSpec.ofChange fnExactLevelOfGaugeSpec)

/-- ITS FALSE NEIGHBOUR: 'it returns false'. Refute it at one input. -/
def fnExactLevelOfGaugeWrong : ChangeSpec := { name := "fnExactLevelOfGauge", fn := fun _ => fun
  | [d1, d2] => { results := [.lit (.bool false)], args := [d1, d2] }
  | _ => none }
def FnExactLevelOfGaugeWrongFalsely : Prop := fnExactLevelOfGaugeRow.holds Try.pinned (OpenSpec.ofChange fnExactLevelOfGaugeWrong)

/- THE SECOND FORM. 'bulk': how many values and letters a reading holds, each counted each time it is reached (what is shared counts as often as it is met; a slice's spare places count too). A statement '..UptoSaid' is the law's where the arguments, and the package variables that the reading takes, are together of bulk at most 1048576: NARROWER than '..Said'. Prove '..Said' where nothing that the law and all that it calls make is longer than what came in: it says more and counts as full. Else prove '..UptoSaid'. A law counts once. -/
mutual
def uptoBulk {H : Type} : DataW H → Nat
  | .lit (.string bytes) => bytes.length + 1
  | .lit _ => 1
  | .nil => 1
  | .ptr d => uptoBulk d + 1
  | .slice elems spare => uptoBulkAll elems + uptoBulkAll spare + 1
  | .agg parts => uptoBulkAll parts + 1
  | .iface _ d => uptoBulk d + 1
  | .map entries => uptoBulkEntries entries + 1
  | .held _ => 1
def uptoBulkAll {H : Type} : List (DataW H) → Nat
  | [] => 0
  | d :: r => uptoBulk d + uptoBulkAll r
def uptoBulkEntries {H : Type} : List (Lit × DataW H) → Nat
  | [] => 0
  | x :: r => uptoBulkEntry x + uptoBulkEntries r
def uptoBulkEntry {H : Type} : Lit × DataW H → Nat
  | (.string bytes, d) => bytes.length + uptoBulk d + 1
  | (_, d) => uptoBulk d + 1
 end
def uptoSmall : (H : Type) → List (DataW H) → Bool := fun _ ds => decide (uptoBulkAll ds ≤ 1048576)
def OpenSpec.upto (s : _root_.Go.ChangeSpec) : _root_.Go.OpenSpec := { _root_.Go.OpenSpec.ofChange s with cond := some uptoSmall }

/-- 'laws.FnExactConstants', WHERE WHAT IT READS IS OF BULK AT MOST 1048576: true; the input reads as it did. -/
def fnExactConstantsUptoRow : OpenClaim := { program := "ytiimbcggfnmdfaa", sum := "c65eda563687d887e45970592564a631f002a5fe658c8357b92eac8bbb337dac", func := "loop.example/g01032/laws.FnExactConstants", spec := "fnExactConstants", apart := false, narrowed := true }
def FnExactConstantsUptoSaid : Prop := fnExactConstantsUptoRow.holds Try.pinned (OpenSpec.upto fnExactConstantsSpec)

/-- 'laws.FnExactValidDay', WHERE WHAT IT READS IS OF BULK AT MOST 1048576: true; the input reads as it did. -/
def fnExactValidDayUptoRow : OpenClaim := { program := "ytiimbcggfnmdfaa", sum := "c65eda563687d887e45970592564a631f002a5fe658c8357b92eac8bbb337dac", func := "loop.example/g01032/laws.FnExactValidDay", spec := "fnExactValidDay", apart := false, narrowed := true }
def FnExactValidDayUptoSaid : Prop := fnExactValidDayUptoRow.holds Try.pinned (OpenSpec.upto fnExactValidDaySpec)

/-- 'laws.FnExactValidLevel', WHERE WHAT IT READS IS OF BULK AT MOST 1048576: true; the input reads as it did. -/
def fnExactValidLevelUptoRow : OpenClaim := { program := "ytiimbcggfnmdfaa", sum := "c65eda563687d887e45970592564a631f002a5fe658c8357b92eac8bbb337dac", func := "loop.example/g01032/laws.FnExactValidLevel", spec := "fnExactValidLevel", apart := false, narrowed := true }
def FnExactValidLevelUptoSaid : Prop := fnExactValidLevelUptoRow.holds Try.pinned (OpenSpec.upto fnExactValidLevelSpec)

/-- 'laws.FnExactCodeName', WHERE WHAT IT READS IS OF BULK AT MOST 1048576: true; the input reads as it did. -/
def fnExactCodeNameUptoRow : OpenClaim := { program := "ytiimbcggfnmdfaa", sum := "c65eda563687d887e45970592564a631f002a5fe658c8357b92eac8bbb337dac", func := "loop.example/g01032/laws.FnExactCodeName", spec := "fnExactCodeName", apart := false, narrowed := true }
def FnExactCodeNameUptoSaid : Prop := fnExactCodeNameUptoRow.holds Try.pinned (OpenSpec.upto fnExactCodeNameSpec)

/-- 'laws.FnExactRainOn', WHERE WHAT IT READS IS OF BULK AT MOST 1048576: true; the input reads as it did. -/
def fnExactRainOnUptoRow : OpenClaim := { program := "ytiimbcggfnmdfaa", sum := "c65eda563687d887e45970592564a631f002a5fe658c8357b92eac8bbb337dac", func := "loop.example/g01032/laws.FnExactRainOn", spec := "fnExactRainOn", apart := false, narrowed := true }
def FnExactRainOnUptoSaid : Prop := fnExactRainOnUptoRow.holds Try.pinned (OpenSpec.upto fnExactRainOnSpec)

/-- 'laws.FnExactLevelOfGauge', WHERE WHAT IT READS IS OF BULK AT MOST 1048576: true; the input reads as it did. -/
def fnExactLevelOfGaugeUptoRow : OpenClaim := { program := "ytiimbcggfnmdfaa", sum := "c65eda563687d887e45970592564a631f002a5fe658c8357b92eac8bbb337dac", func := "loop.example/g01032/laws.FnExactLevelOfGauge", spec := "fnExactLevelOfGauge", apart := false, narrowed := true }
def FnExactLevelOfGaugeUptoSaid : Prop := fnExactLevelOfGaugeUptoRow.holds Try.pinned (OpenSpec.upto fnExactLevelOfGaugeSpec)

end Rows
end Go.Proofs.Ytiimbcggfnmdfaa
