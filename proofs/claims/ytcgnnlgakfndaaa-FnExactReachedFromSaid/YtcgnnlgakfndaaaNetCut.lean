/-
  Contracts on nets: the cut of some junctions. They hold for lists of at most 1048576 numbers.
-/
import Derived.Test.YtcgnnlgakfndaaaNetOk
import Derived.Test.YtcgnnlgakfndaaaHas
import Derived.Test.YtcgnnlgakfndaaaCutPlain
import Derived.Test.YtcgnnlgakfndaaaCurve
namespace Go.Proofs.Ytcgnnlgakfndaaa
set_option linter.unusedVariables false
open Go.RowKit

end Go.Proofs.Ytcgnnlgakfndaaa
