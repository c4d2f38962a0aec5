/-
  Plain words on volumes of curves, without any program text: the part of a curve with a level, the volume at a level. No condition.
-/
import Derived.Test.YtcgnnlgakfndaaaCurvePlain
namespace Go.Proofs.Ytcgnnlgakfndaaa
set_option linter.unusedVariables false
/-- k is the part of the curve with the level y -/
structure IsKnot (ls : List Int) (y : Int) (k : Nat) : Prop where
  last : k + 2 ≤ ls.length
  lo : ∀ i, i ≤ k → gt ls i ≤ y
  hi : ∀ i, k < i → i + 1 < ls.length → y < gt ls i
/-- rising numbers -/
def Up (ls : List Int) : Prop := ∀ j, j + 1 < ls.length → gt ls j < gt ls (j + 1)
theorem up_le {ls : List Int} (h : Up ls) {i j : Nat} (hij : i ≤ j) (hj : j < ls.length) : gt ls i ≤ gt ls j := by
  induction j with
  | zero => obtain rfl : i = 0 := by omega
            exact Int.le_refl _
  | succ j ih =>
    by_cases e : i = j + 1
    · subst e; exact Int.le_refl _
    · have h1 := ih (by omega) (by omega)
      have h2 := h j hj
      omega
theorem knot_exists {ls : List Int} {y : Int} (hup : Up ls) (hn : 2 ≤ ls.length) (h0 : gt ls 0 ≤ y) : ∃ k, IsKnot ls y k := by
  have key : ∀ m, m + 2 ≤ ls.length → ∃ k, k ≤ m ∧ gt ls k ≤ y ∧ ∀ i, k < i → i ≤ m → y < gt ls i := by
    intro m
    induction m with
    | zero => intro _; exact ⟨0, Nat.le_refl _, h0, fun i h1 h2 => by omega⟩
    | succ m ih =>
      intro hm
      by_cases hy : gt ls (m + 1) ≤ y
      · exact ⟨m + 1, Nat.le_refl _, hy, fun i h1 h2 => by omega⟩
      · obtain ⟨k, h1, h2, h3⟩ := ih (by omega)
        refine ⟨k, by omega, h2, fun i h4 h5 => ?_⟩
        by_cases e : i = m + 1
        · subst e; omega
        · exact h3 i h4 (by omega)
  obtain ⟨k, h1, h2, h3⟩ := key (ls.length - 2) (by omega)
  refine ⟨k, by omega, fun i hi => ?_, fun i h4 h5 => h3 i h4 (by omega)⟩
  have := up_le hup hi (by omega)
  omega
/-- the volume at a level within the part k -/
def volK (ls vs : List Int) (y : Int) (k : Nat) : Int := gt vs k + (gt vs (k + 1) - gt vs k) * (y - gt ls k) / (gt ls (k + 1) - gt ls k)
theorem prod_bd {a b A B : Int} (h0 : 0 ≤ a) (h1 : a ≤ A) (h2 : 0 ≤ b) (h3 : b ≤ B) : 0 ≤ a * b ∧ a * b ≤ A * B :=
  ⟨Int.mul_nonneg h0 h2, Int.mul_le_mul h1 h3 h2 (by omega)⟩
theorem quo_bd {p d A : Int} (h0 : 0 ≤ p) (hd : 1 ≤ d) (hA : p ≤ A) : 0 ≤ p / d ∧ p / d ≤ A := by
  have h1 := Int.ediv_nonneg h0 (show 0 ≤ d by omega)
  have h2 := Int.ediv_le_self d h0
  omega
/-- impl's part: behind j rounds -/
def atN (k : Nat) : Nat → Nat
  | 0 => 0
  | j + 1 => if j ≤ k then j else k
theorem atN_step {k j : Nat} (h : j ≤ k) : atN k (j + 1) = j := by simp [atN, h]
theorem atN_stay {k j : Nat} (h : ¬ j ≤ k) : atN k (j + 1) = atN k j := by
  cases j with
  | zero => omega
  | succ j => simp only [atN, if_neg h]; split <;> omega
theorem atN_end {k n : Nat} (h : k < n) : atN k n = k := by
  cases n with
  | zero => omega
  | succ n => simp only [atN]; split <;> omega
/-- the part of the curve with a level, reckoned -/
def knotN (ls : List Int) (y : Int) : Nat → Nat
  | 0 => 0
  | m + 1 => if gt ls (m + 1) ≤ y then m + 1 else knotN ls y m
def knotOf (ls : List Int) (y : Int) : Nat := knotN ls y (ls.length - 2)
theorem knotN_spec {ls : List Int} {y : Int} (h0 : gt ls 0 ≤ y) (m : Nat) : knotN ls y m ≤ m ∧ gt ls (knotN ls y m) ≤ y ∧ ∀ i, knotN ls y m < i → i ≤ m → y < gt ls i := by
  induction m with
  | zero => exact ⟨Nat.le_refl _, h0, fun i h1 h2 => by simp only [knotN] at h1; omega⟩
  | succ m ih =>
    by_cases hy : gt ls (m + 1) ≤ y
    · simp only [knotN, if_pos hy]
      exact ⟨Nat.le_refl _, hy, fun i h1 h2 => by omega⟩
    · simp only [knotN, if_neg hy]
      refine ⟨by omega, ih.2.1, fun i h1 h2 => ?_⟩
      by_cases e : i = m + 1
      · subst e; omega
      · exact ih.2.2 i h1 (by omega)
theorem knotOf_spec {ls : List Int} {y : Int} (hup : Up ls) (hn : 2 ≤ ls.length) (h0 : gt ls 0 ≤ y) : IsKnot ls y (knotOf ls y) := by
  obtain ⟨h1, h2, h3⟩ := knotN_spec h0 (ls.length - 2)
  refine ⟨by unfold knotOf; omega, fun i hi => ?_, fun i h4 h5 => h3 i h4 (by omega)⟩
  have := up_le hup hi (by unfold knotOf; omega)
  unfold knotOf at this
  omega
def onB (ls : List Int) (y : Int) : Bool := inR y (gt ls 0) (gt ls (ls.length - 1))
def volAt (ls vs : List Int) (y : Int) : Int := volK ls vs y (knotOf ls y)
def atC (ls vs : List Int) (y : Int) : Int := if curveOk ls vs then (if onB ls y then 0 else 2) else 1
def atV (ls vs : List Int) (y : Int) : Int := if curveOk ls vs && onB ls y then volAt ls vs y else 0
theorem at_bad1 {ls vs : List Int} {y : Int} (h : curveOk ls vs = false) : atV ls vs y = 0 ∧ atC ls vs y = 1 := by simp [atV, atC, h]
theorem at_bad2 {ls vs : List Int} {y : Int} (h : curveOk ls vs = true) (h2 : onB ls y = false) : atV ls vs y = 0 ∧ atC ls vs y = 2 := by simp [atV, atC, h, h2]
theorem at_ok {ls vs : List Int} {y : Int} (h : curveOk ls vs = true) (h2 : onB ls y = true) : atV ls vs y = volAt ls vs y ∧ atC ls vs y = 0 := by simp [atV, atC, h, h2]
/-- what a valid curve and a level of it give -/
theorem vol_facts {ls vs : List Int} {y : Int} (h : curveOk ls vs = true) (h0 : gt ls 0 ≤ y) (hy : y ≤ 2000) :
    IsKnot ls y (knotOf ls y) ∧ (0 ≤ gt vs (knotOf ls y) ∧ gt vs (knotOf ls y) ≤ 1000000000) ∧ (0 ≤ gt vs (knotOf ls y + 1) - gt vs (knotOf ls y) ∧ gt vs (knotOf ls y + 1) - gt vs (knotOf ls y) ≤ 1000000000) ∧
    (-2000 ≤ gt ls (knotOf ls y) ∧ gt ls (knotOf ls y) ≤ 2000) ∧ (0 ≤ y - gt ls (knotOf ls y) ∧ y - gt ls (knotOf ls y) ≤ 4000) ∧ (1 ≤ gt ls (knotOf ls y + 1) - gt ls (knotOf ls y) ∧ gt ls (knotOf ls y + 1) - gt ls (knotOf ls y) ≤ 4000) ∧
    (0 ≤ (gt vs (knotOf ls y + 1) - gt vs (knotOf ls y)) * (y - gt ls (knotOf ls y)) ∧ (gt vs (knotOf ls y + 1) - gt vs (knotOf ls y)) * (y - gt ls (knotOf ls y)) ≤ 4000000000000) ∧
    (0 ≤ (gt vs (knotOf ls y + 1) - gt vs (knotOf ls y)) * (y - gt ls (knotOf ls y)) / (gt ls (knotOf ls y + 1) - gt ls (knotOf ls y)) ∧ (gt vs (knotOf ls y + 1) - gt vs (knotOf ls y)) * (y - gt ls (knotOf ls y)) / (gt ls (knotOf ls y + 1) - gt ls (knotOf ls y)) ≤ 4000000000000) := by
  obtain ⟨c1, c2, c3, c4, c5, c6, c7, c8⟩ := curveOk_of h
  have hk := knotOf_spec c5 c1 h0
  have hl := hk.last
  have a1 := c6 (knotOf ls y) (by omega)
  have a2 := c6 (knotOf ls y + 1) (by omega)
  have a3 := c7 (knotOf ls y) (by omega)
  have a4 := c4 (knotOf ls y) (by omega)
  have a5 := c4 (knotOf ls y + 1) (by omega)
  have a6 := c5 (knotOf ls y) (by omega)
  have a7 := hk.lo (knotOf ls y) (Nat.le_refl _)
  have p := prod_bd (a := gt vs (knotOf ls y + 1) - gt vs (knotOf ls y)) (b := y - gt ls (knotOf ls y)) (A := 1000000000) (B := 4000) (by omega) (by omega) (by omega) (by omega)
  have p' : (gt vs (knotOf ls y + 1) - gt vs (knotOf ls y)) * (y - gt ls (knotOf ls y)) ≤ 4000000000000 := by have := p.2; omega
  have q := quo_bd (d := gt ls (knotOf ls y + 1) - gt ls (knotOf ls y)) p.1 (by omega) p'
  exact ⟨hk, a1, by omega, a4, by omega, by omega, ⟨p.1, p'⟩, q⟩
/-- the volume between two levels -/
def spV (ls vs : List Int) (a b : Int) : Int := if curveOk ls vs && (onB ls a && onB ls b) then volAt ls vs b - volAt ls vs a else 0
def spC (ls vs : List Int) (a b : Int) : Int := if curveOk ls vs then (if onB ls a && onB ls b then 0 else 2) else 1
theorem sp_bad1 {ls vs : List Int} {a b : Int} (h : curveOk ls vs = false) : spV ls vs a b = 0 ∧ spC ls vs a b = 1 := by simp [spV, spC, h]
theorem sp_bad2 {ls vs : List Int} {a b : Int} (h : curveOk ls vs = true) (h2 : onB ls a = false) : spV ls vs a b = 0 ∧ spC ls vs a b = 2 := by simp [spV, spC, h, h2]
theorem sp_bad3 {ls vs : List Int} {a b : Int} (h : curveOk ls vs = true) (h2 : onB ls b = false) : spV ls vs a b = 0 ∧ spC ls vs a b = 2 := by simp [spV, spC, h, h2]
theorem sp_ok {ls vs : List Int} {a b : Int} (h : curveOk ls vs = true) (h2 : onB ls a = true) (h3 : onB ls b = true) : spV ls vs a b = volAt ls vs b - volAt ls vs a ∧ spC ls vs a b = 0 := by simp [spV, spC, h, h2, h3]
theorem volAt_bd {ls vs : List Int} {y : Int} (h : curveOk ls vs = true) (h0 : gt ls 0 ≤ y) (hy : y ≤ 2000) : 0 ≤ volAt ls vs y ∧ volAt ls vs y ≤ 4001000000000 := by
  have f := vol_facts h h0 hy
  unfold volAt volK
  omega
end Go.Proofs.Ytcgnnlgakfndaaa
