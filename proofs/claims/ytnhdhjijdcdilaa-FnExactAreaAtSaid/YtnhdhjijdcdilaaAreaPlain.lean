/-
  Plain words on how fast the volume of a curve grows at a level. No condition.
-/
import Derived.Test.YtnhdhjijdcdilaaVolPlain
namespace Go.Proofs.Ytnhdhjijdcdilaa
set_option linter.unusedVariables false
def upOf (ls vs : List Int) (y : Int) : Int := gt vs (knotOf ls y + 1) - gt vs (knotOf ls y)
def wideOf (ls : List Int) (y : Int) : Nat := (gt ls (knotOf ls y + 1) - gt ls (knotOf ls y)).toNat
def arX (ls vs : List Int) (y : Int) : Int := if curveOk ls vs && onB ls y then (upOf ls vs y).tdiv ((gcdN (absN (upOf ls vs y)) (wideOf ls y) : Nat) : Int) else 0
def arY (ls vs : List Int) (y : Int) : Int := if curveOk ls vs && onB ls y then ((wideOf ls y : Nat) : Int) / ((gcdN (absN (upOf ls vs y)) (wideOf ls y) : Nat) : Int) else 0
theorem ar_bad1 {ls vs : List Int} {y : Int} (h : curveOk ls vs = false) : arX ls vs y = 0 ∧ arY ls vs y = 0 ∧ atC ls vs y = 1 := by simp [arX, arY, atC, h]
theorem ar_bad2 {ls vs : List Int} {y : Int} (h : curveOk ls vs = true) (h2 : onB ls y = false) : arX ls vs y = 0 ∧ arY ls vs y = 0 ∧ atC ls vs y = 2 := by simp [arX, arY, atC, h, h2]
theorem ar_ok {ls vs : List Int} {y : Int} (h : curveOk ls vs = true) (h2 : onB ls y = true) : arX ls vs y = (upOf ls vs y).tdiv ((gcdN (absN (upOf ls vs y)) (wideOf ls y) : Nat) : Int) ∧ arY ls vs y = ((wideOf ls y : Nat) : Int) / ((gcdN (absN (upOf ls vs y)) (wideOf ls y) : Nat) : Int) ∧ atC ls vs y = 0 := by simp [arX, arY, atC, h, h2]
end Go.Proofs.Ytnhdhjijdcdilaa
