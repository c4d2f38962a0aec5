/-
  Plain words on nets: the cut of some junctions. No condition.
-/
import Derived.Test.YtcgnnlgakfndaaaNetPlain
import Derived.Test.YtcgnnlgakfndaaaHasPlain
namespace Go.Proofs.Ytcgnnlgakfndaaa
set_option linter.unusedVariables false
def cutAt (fl side : List Int) (i : Nat) : Bool := hasB side (dF fl i) && !(hasB side (dT fl i))
def cutTo (fl side : List Int) : Nat → Int
  | 0 => 0
  | k + 1 => cutTo fl side k + (if cutAt fl side k then dW fl k else 0)
theorem cutTo_no1 {fl side : List Int} {k : Nat} (h : hasB side (dF fl k) = false) : cutTo fl side (k + 1) = cutTo fl side k := by simp [cutTo, cutAt, h]
theorem cutTo_no2 {fl side : List Int} {k : Nat} (h : hasB side (dT fl k) = true) : cutTo fl side (k + 1) = cutTo fl side k := by simp [cutTo, cutAt, h]
theorem cutTo_yes {fl side : List Int} {k : Nat} (h : hasB side (dF fl k) = true) (h2 : hasB side (dT fl k) = false) : cutTo fl side (k + 1) = cutTo fl side k + dW fl k := by simp [cutTo, cutAt, h, h2]
theorem cutTo_bd {fl side : List Int} {n : Nat} (hw : ∀ i, i < n → 0 ≤ dW fl i ∧ dW fl i ≤ 1000) : ∀ k, k ≤ n → 0 ≤ cutTo fl side k ∧ cutTo fl side k ≤ 1000 * (k : Int)
  | 0, _ => by simp [cutTo]
  | k + 1, hk => by
    have ih := cutTo_bd (side := side) hw k (by omega)
    have h := hw k (by omega)
    simp only [cutTo]
    push_cast
    split <;> omega
def cfC (J : Int) (n : Nat) (fl side : List Int) : Int := if netOk J n fl then (if risesB side 0 (J - 1) then 0 else 2) else 1
def cfX (J : Int) (n : Nat) (fl side : List Int) : Int := if netOk J n fl && risesB side 0 (J - 1) then cutTo fl side n else 0
theorem cf_1 {J : Int} {n : Nat} {fl side : List Int} (h : netOk J n fl = false) : cfX J n fl side = 0 ∧ cfC J n fl side = 1 := by simp [cfX, cfC, h]
theorem cf_2 {J : Int} {n : Nat} {fl side : List Int} (h : netOk J n fl = true) (h2 : risesB side 0 (J - 1) = false) : cfX J n fl side = 0 ∧ cfC J n fl side = 2 := by simp [cfX, cfC, h, h2]
theorem cf_3 {J : Int} {n : Nat} {fl side : List Int} (h : netOk J n fl = true) (h2 : risesB side 0 (J - 1) = true) : cfX J n fl side = cutTo fl side n ∧ cfC J n fl side = 0 := by simp [cfX, cfC, h, h2]
end Go.Proofs.Ytcgnnlgakfndaaa
