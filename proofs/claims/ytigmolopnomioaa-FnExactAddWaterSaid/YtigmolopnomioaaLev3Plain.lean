/-
  Plain words on levels of curves, the third part: more water. No condition.
-/
import Derived.Test.YtigmolopnomioaaLev2Plain
namespace Go.Proofs.Ytigmolopnomioaa
def awOk (ls : List Int) (y v : Int) : Bool := onB ls y && inR v (-1000000000) 1000000000
def awC (ls vs : List Int) (y v : Int) : Int :=
  if curveOk ls vs then (if awOk ls y v then (if volAt ls vs y + v < 0 then 6 else if volAt ls vs y + v ≤ gt vs (vs.length - 1) then 0 else 10) else 2) else 1
def awV (ls vs : List Int) (y v : Int) : Int := if awC ls vs y v = 0 then levOf ls vs (volAt ls vs y + v) else 0
theorem aw_bad1 {ls vs : List Int} {y v : Int} (h : curveOk ls vs = false) : awV ls vs y v = 0 ∧ awC ls vs y v = 1 := by simp [awV, awC, h]
theorem aw_bad2 {ls vs : List Int} {y v : Int} (h : curveOk ls vs = true) (h2 : onB ls y = false) : awV ls vs y v = 0 ∧ awC ls vs y v = 2 := by simp [awV, awC, awOk, h, h2]
theorem aw_bad3 {ls vs : List Int} {y v : Int} (h : curveOk ls vs = true) (h2 : inR v (-1000000000) 1000000000 = false) : awV ls vs y v = 0 ∧ awC ls vs y v = 2 := by simp [awV, awC, awOk, h, h2]
theorem aw_bad4 {ls vs : List Int} {y v : Int} (h : curveOk ls vs = true) (h2 : onB ls y = true) (h3 : inR v (-1000000000) 1000000000 = true) (h4 : volAt ls vs y + v < 0) : awV ls vs y v = 0 ∧ awC ls vs y v = 6 := by simp [awV, awC, awOk, h, h2, h3, h4]
theorem aw_bad5 {ls vs : List Int} {y v : Int} (h : curveOk ls vs = true) (h2 : onB ls y = true) (h3 : inR v (-1000000000) 1000000000 = true) (h4 : ¬ volAt ls vs y + v < 0) (h5 : ¬ volAt ls vs y + v ≤ gt vs (vs.length - 1)) : awV ls vs y v = 0 ∧ awC ls vs y v = 10 := by simp [awV, awC, awOk, h, h2, h3, h4, h5]
theorem aw_ok {ls vs : List Int} {y v : Int} (h : curveOk ls vs = true) (h2 : onB ls y = true) (h3 : inR v (-1000000000) 1000000000 = true) (h4 : ¬ volAt ls vs y + v < 0) (h5 : volAt ls vs y + v ≤ gt vs (vs.length - 1)) : awV ls vs y v = levOf ls vs (volAt ls vs y + v) ∧ awC ls vs y v = 0 := by simp [awV, awC, awOk, h, h2, h3, h4, h5]
end Go.Proofs.Ytigmolopnomioaa
