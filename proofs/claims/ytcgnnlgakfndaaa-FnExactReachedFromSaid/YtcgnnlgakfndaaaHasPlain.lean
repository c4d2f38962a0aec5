/-
  Plain words: a number is in a list. No condition.
-/
import Derived.Test.YtcgnnlgakfndaaaCurvePlain
namespace Go.Proofs.Ytcgnnlgakfndaaa
set_option linter.unusedVariables false
/-- a number is in a list, by its index -/
def hasB (xs : List Int) (x : Int) : Bool := decide (x ∈ xs)
theorem hasB_at {xs : List Int} {x : Int} {k : Nat} (hk : k < xs.length) (h : gt xs k = x) : hasB xs x = true := by
  have : gt xs k ∈ xs := by
    simp [gt, List.getD_eq_getElem?_getD, List.getElem?_eq_getElem hk]
  simp [hasB, ← h, this]
theorem hasB_none {xs : List Int} {x : Int} (h : ∀ i, i < xs.length → gt xs i ≠ x) : hasB xs x = false := by
  simp only [hasB, decide_eq_false_iff_not]
  intro hm
  obtain ⟨i, hi, rfl⟩ := List.mem_iff_getElem.1 hm
  exact h i hi (by simp [gt, List.getD_eq_getElem?_getD, List.getElem?_eq_getElem hi])
end Go.Proofs.Ytcgnnlgakfndaaa
