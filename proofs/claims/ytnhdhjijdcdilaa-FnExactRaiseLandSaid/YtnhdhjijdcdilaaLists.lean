/-
  Contracts of functions that make lists of numbers: places where something is so, ranks, what runs off. They hold for lists within the bounds that each names.
-/
import Derived.Test.YtnhdhjijdcdilaaMean
import Derived.Test.YtnhdhjijdcdilaaHelp
import Derived.Test.YtnhdhjijdcdilaaSeq
namespace Go.Proofs.Ytnhdhjijdcdilaa
set_option linter.unusedVariables false
open Go.RowKit

end Go.Proofs.Ytnhdhjijdcdilaa
