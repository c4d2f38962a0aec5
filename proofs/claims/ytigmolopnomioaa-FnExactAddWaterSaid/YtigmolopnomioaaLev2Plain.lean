/-
  Plain words on levels of curves, the second part: the least level with a volume, reckoned. No condition.
-/
import Derived.Test.YtigmolopnomioaaLevPlain
namespace Go.Proofs.Ytigmolopnomioaa
def levN (ls vs : List Int) (v : Int) : Nat → Int → Int
  | 0, s => s
  | n + 1, s => if v ≤ volAt ls vs (s - 1) then levN ls vs v n (s - 1) else s
def levOf (ls vs : List Int) (v : Int) : Int := levN ls vs v (gt ls (ls.length - 1) - gt ls 0).toNat (gt ls (ls.length - 1))
theorem levOf_spec {ls vs : List Int} {v : Int} (h : curveOk ls vs = true) (hv : v ≤ gt vs (vs.length - 1)) : IsLev ls vs v (levOf ls vs v) := by
  have hl := volAt_last h
  have c := curveOk_of h
  have h0 := up_le (i := 0) (j := ls.length - 1) c.2.2.2.2.1 (by omega) (by omega)
  have key : ∀ n : Nat, ∀ s, gt ls 0 ≤ s → s ≤ gt ls (ls.length - 1) → s - gt ls 0 = (n : Int) → v ≤ volAt ls vs s → IsLev ls vs v (levN ls vs v n s) := by
    intro n
    induction n with
    | zero =>
      intro s h1 h2 h3 h4
      exact ⟨h1, h2, h4, fun y hy1 hy2 => by simp only [levN] at hy2; omega⟩
    | succ n ih =>
      intro s h1 h2 h3 h4
      by_cases h6 : v ≤ volAt ls vs (s - 1)
      · simp only [levN, if_pos h6]
        exact ih (s - 1) (by omega) (by omega) (by omega) h6
      · simp only [levN, if_neg h6]
        refine ⟨h1, h2, h4, fun y hy1 hy2 => ?_⟩
        have := volAt_mono (z := s - 1) h hy1 (by omega)
        omega
  exact key _ _ h0 (Int.le_refl _) (by omega) (by omega)
/-- the level with a volume -/
def lvV (ls vs : List Int) (v : Int) : Int := if curveOk ls vs && (inR v 0 1000000000 && decide (v ≤ gt vs (vs.length - 1))) then levOf ls vs v else 0
def lvC (ls vs : List Int) (v : Int) : Int := if curveOk ls vs then (if inR v 0 1000000000 then (if v ≤ gt vs (vs.length - 1) then 0 else 10) else 2) else 1
theorem lv_bad1 {ls vs : List Int} {v : Int} (h : curveOk ls vs = false) : lvV ls vs v = 0 ∧ lvC ls vs v = 1 := by simp [lvV, lvC, h]
theorem lv_bad2 {ls vs : List Int} {v : Int} (h : curveOk ls vs = true) (h2 : inR v 0 1000000000 = false) : lvV ls vs v = 0 ∧ lvC ls vs v = 2 := by simp [lvV, lvC, h, h2]
theorem lv_bad3 {ls vs : List Int} {v : Int} (h : curveOk ls vs = true) (h2 : inR v 0 1000000000 = true) (h3 : ¬ v ≤ gt vs (vs.length - 1)) : lvV ls vs v = 0 ∧ lvC ls vs v = 10 := by simp [lvV, lvC, h, h2, h3]
theorem lv_ok {ls vs : List Int} {v : Int} (h : curveOk ls vs = true) (h2 : inR v 0 1000000000 = true) (h3 : v ≤ gt vs (vs.length - 1)) : lvV ls vs v = levOf ls vs v ∧ lvC ls vs v = 0 := by simp [lvV, lvC, h, h2, h3]
end Go.Proofs.Ytigmolopnomioaa
