/-
  A word for a block of two cells, both written. No condition.
-/
import Derived.Test.YtcgnnlgakfndaaaOnly
namespace Go.Proofs.Ytcgnnlgakfndaaa
set_option linter.unusedVariables false
open Go.RowKit
theorem two_setC {w : World} {G : Nat} {x y a b : Value} {T : TypeId} (h : w.heap[G]? = some (.cells #[x, y] T (0, 0))) : ((w.setCell ⟨G, 0, none⟩ a).setCell ⟨G, 1, none⟩ b).heap[G]? = some (.cells #[a, b] T (0, 0)) :=
  heap_setCell_same _ _ 1 _ _ _ (heap_setCell_same _ _ 0 _ _ _ h)
end Go.Proofs.Ytcgnnlgakfndaaa
