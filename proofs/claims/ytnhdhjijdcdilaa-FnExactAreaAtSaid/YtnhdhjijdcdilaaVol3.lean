/-
  Contracts on curves, the fifth part: the space between two levels.
-/
import Derived.Test.YtnhdhjijdcdilaaVol2
import Derived.IntWalk
namespace Go.Proofs.Ytnhdhjijdcdilaa
set_option linter.unusedVariables false
open Go.RowKit

end Go.Proofs.Ytnhdhjijdcdilaa
