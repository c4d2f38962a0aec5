/-
  Plain words on levels of curves, without any program text: the volume grows with the level, the least level with a volume, hours rounded up. No condition.
-/
import Derived.Test.YtigmolopnomioaaVolPlain
namespace Go.Proofs.Ytigmolopnomioaa
/-- a quotient of a product by the whole is no more than the factor -/
theorem part_le {u y d : Int} (hu : 0 ≤ u) (hd : 1 ≤ d) (hy : y ≤ d) : u * y / d ≤ u := by
  have h1 : u * y ≤ u * d := Int.mul_le_mul_of_nonneg_left hy hu
  have h2 := Int.ediv_le_ediv (show 0 < d by omega) h1
  rw [Int.mul_ediv_cancel _ (show d ≠ 0 by omega)] at h2
  exact h2
theorem volAt_mono {ls vs : List Int} {y z : Int} (h : curveOk ls vs = true) (h0 : gt ls 0 ≤ y) (hyz : y ≤ z) : volAt ls vs y ≤ volAt ls vs z := by
  obtain ⟨c1, c2, c3, c4, c5, c6, c7, c8⟩ := curveOk_of h
  have ky := knotOf_spec c5 c1 h0
  have kz := knotOf_spec c5 c1 (show gt ls 0 ≤ z by omega)
  unfold volAt volK
  generalize knotOf ls y = k at ky ⊢
  generalize knotOf ls z = m at kz ⊢
  have lk := ky.last
  have lm := kz.last
  have uk := c7 k (by omega)
  have um := c7 m (by omega)
  have dk := c5 k (by omega)
  have dm := c5 m (by omega)
  by_cases e : k = m
  · subst e
    have h1 : (gt vs (k + 1) - gt vs k) * (y - gt ls k) ≤ (gt vs (k + 1) - gt vs k) * (z - gt ls k) := Int.mul_le_mul_of_nonneg_left (by omega) (by omega)
    have h2 := Int.ediv_le_ediv (show 0 < gt ls (k + 1) - gt ls k by omega) h1
    omega
  · have hkm : k < m := by
      rcases Nat.lt_or_ge k m with h1 | h1
      · exact h1
      · exfalso
        have h2 := kz.hi k (by omega) (by omega)
        have h3 := ky.lo k (Nat.le_refl _)
        omega
    have h1 := ky.hi (k + 1) (by omega) (by omega)
    have h2 := part_le (u := gt vs (k + 1) - gt vs k) (y := y - gt ls k) (d := gt ls (k + 1) - gt ls k) (by omega) (by omega) (by omega)
    have h3 := up_le (i := k + 1) (j := m) c7 (by omega) (by omega)
    have h4 := kz.lo m (Nat.le_refl _)
    have h5 := Int.ediv_nonneg (Int.mul_nonneg (show 0 ≤ gt vs (m + 1) - gt vs m by omega) (show 0 ≤ z - gt ls m by omega)) (show 0 ≤ gt ls (m + 1) - gt ls m by omega)
    omega
theorem volAt_last {ls vs : List Int} (h : curveOk ls vs = true) : volAt ls vs (gt ls (ls.length - 1)) = gt vs (vs.length - 1) := by
  obtain ⟨c1, c2, c3, c4, c5, c6, c7, c8⟩ := curveOk_of h
  have h0 := up_le (i := 0) (j := ls.length - 1) c5 (by omega) (by omega)
  have ky := knotOf_spec c5 c1 h0
  unfold volAt volK
  generalize knotOf ls (gt ls (ls.length - 1)) = k at ky ⊢
  have lk := ky.last
  have e : k = ls.length - 2 := by
    rcases Nat.lt_or_ge k (ls.length - 2) with h1 | h1
    · exfalso
      have h2 := ky.hi (ls.length - 2) h1 (by omega)
      have h3 := up_le (i := ls.length - 2) (j := ls.length - 1) c5 (by omega) (by omega)
      omega
    · omega
  have e1 : ls.length - 1 = k + 1 := by omega
  have e2 : vs.length - 1 = k + 1 := by omega
  have d := c5 k (by omega)
  rw [e1, e2, Int.mul_ediv_cancel _ (by omega)]
  omega
theorem volAt_first {ls vs : List Int} (h : curveOk ls vs = true) : volAt ls vs (gt ls 0) = 0 := by
  obtain ⟨c1, c2, c3, c4, c5, c6, c7, c8⟩ := curveOk_of h
  have ky := knotOf_spec c5 c1 (Int.le_refl (gt ls 0))
  unfold volAt volK
  generalize knotOf ls (gt ls 0) = k at ky ⊢
  have lk := ky.last
  have e : k = 0 := by
    rcases Nat.eq_zero_or_pos k with h1 | h1
    · exact h1
    · exfalso
      have h2 := ky.lo 1 (by omega)
      have h3 := c5 0 (by omega)
      simp only [Nat.zero_add] at h3
      omega
  subst e
  simp [c8]
/-- a quotient rounded up -/
theorem ceil_eq {n d : Int} (hd : 1 ≤ d) : -((-n) / d) = (n + d - 1) / d := by
  have h1 := Int.mul_ediv_add_emod (-n) d
  have h2 := Int.emod_nonneg (-n) (show d ≠ 0 by omega)
  have h3 := Int.emod_lt_of_pos (-n) (show 0 < d by omega)
  generalize (-n) / d = q at h1 ⊢
  generalize (-n) % d = r at h1 h2 h3
  have h4 : n + d - 1 = (d - 1 - r) + d * (-q) := by
    rw [Int.mul_neg]
    omega
  rw [h4, Int.add_mul_ediv_left _ _ (show d ≠ 0 by omega), Int.ediv_eq_zero_of_lt (by omega) (by omega)]
  omega
/-- the hours that it takes to lower the level -/
def hrOk (ls vs : List Int) (a b r : Int) : Bool := onB ls a && (onB ls b && inR r 1 1000000000)
def hrV (ls vs : List Int) (a b r : Int) : Int := if curveOk ls vs && (hrOk ls vs a b r && decide (b ≤ a)) then (volAt ls vs a - volAt ls vs b + r - 1) / r else 0
def hrC (ls vs : List Int) (a b r : Int) : Int := if curveOk ls vs then (if hrOk ls vs a b r then (if b ≤ a then 0 else 6) else 2) else 1
theorem hr_bad1 {ls vs : List Int} {a b r : Int} (h : curveOk ls vs = false) : hrV ls vs a b r = 0 ∧ hrC ls vs a b r = 1 := by simp [hrV, hrC, h]
theorem hr_bad2 {ls vs : List Int} {a b r : Int} (h : curveOk ls vs = true) (h2 : onB ls a = false) : hrV ls vs a b r = 0 ∧ hrC ls vs a b r = 2 := by simp [hrV, hrC, hrOk, h, h2]
theorem hr_bad3 {ls vs : List Int} {a b r : Int} (h : curveOk ls vs = true) (h2 : onB ls b = false) : hrV ls vs a b r = 0 ∧ hrC ls vs a b r = 2 := by simp [hrV, hrC, hrOk, h, h2]
theorem hr_bad4 {ls vs : List Int} {a b r : Int} (h : curveOk ls vs = true) (h2 : inR r 1 1000000000 = false) : hrV ls vs a b r = 0 ∧ hrC ls vs a b r = 2 := by simp [hrV, hrC, hrOk, h, h2]
theorem hr_bad5 {ls vs : List Int} {a b r : Int} (h : curveOk ls vs = true) (h2 : onB ls a = true) (h3 : onB ls b = true) (h4 : inR r 1 1000000000 = true) (h5 : ¬ b ≤ a) : hrV ls vs a b r = 0 ∧ hrC ls vs a b r = 6 := by simp [hrV, hrC, hrOk, h, h2, h3, h4, h5]
theorem hr_ok {ls vs : List Int} {a b r : Int} (h : curveOk ls vs = true) (h2 : onB ls a = true) (h3 : onB ls b = true) (h4 : inR r 1 1000000000 = true) (h5 : b ≤ a) : hrV ls vs a b r = (volAt ls vs a - volAt ls vs b + r - 1) / r ∧ hrC ls vs a b r = 0 := by simp [hrV, hrC, hrOk, h, h2, h3, h4, h5]
/-- r is the least level with a volume -/
structure IsLev (ls vs : List Int) (v r : Int) : Prop where
  low : gt ls 0 ≤ r
  high : r ≤ gt ls (ls.length - 1)
  full : v ≤ volAt ls vs r
  below : ∀ y, gt ls 0 ≤ y → y < r → volAt ls vs y < v
theorem isLev_one {ls vs : List Int} {v r s : Int} (h1 : IsLev ls vs v r) (h2 : IsLev ls vs v s) : r = s := by
  rcases Int.lt_trichotomy r s with h | h | h
  · have := h2.below r h1.low h
    have := h1.full
    omega
  · exact h
  · have := h1.below s h2.low h
    have := h2.full
    omega
theorem isLev_exists {ls vs : List Int} {v : Int} (h : curveOk ls vs = true) (hv : v ≤ gt vs (vs.length - 1)) : ∃ r, IsLev ls vs v r := by
  have hl := volAt_last h
  have c := curveOk_of h
  have h0 := up_le (i := 0) (j := ls.length - 1) c.2.2.2.2.1 (by omega) (by omega)
  have key : ∀ n : Nat, ∀ s, gt ls 0 ≤ s → s ≤ gt ls (ls.length - 1) → s - gt ls 0 ≤ (n : Int) → v ≤ volAt ls vs s → ∃ r, IsLev ls vs v r := by
    intro n
    induction n with
    | zero =>
      intro s h1 h2 h3 h4
      exact ⟨s, h1, h2, h4, fun y hy1 hy2 => by omega⟩
    | succ n ih =>
      intro s h1 h2 h3 h4
      by_cases h5 : s = gt ls 0
      · exact ⟨s, h1, h2, h4, fun y hy1 hy2 => by omega⟩
      · by_cases h6 : v ≤ volAt ls vs (s - 1)
        · exact ih (s - 1) (by omega) (by omega) (by omega) h6
        · refine ⟨s, h1, h2, h4, fun y hy1 hy2 => ?_⟩
          have := volAt_mono (z := s - 1) h hy1 (by omega)
          omega
  exact key (gt ls (ls.length - 1) - gt ls 0).toNat _ h0 (Int.le_refl _) (by omega) (by omega)
end Go.Proofs.Ytigmolopnomioaa
