/-
  Plain words on storage curves, without any program text: equal lists, rising lists, valid curves. No condition.
-/
import Derived.Test.YtcjfdfjimcapkaaGreatDoorSeq
namespace Go.Proofs.YtcjfdfjimcapkaaGreatDoor
set_option linter.unusedVariables false
def sameB (xs ys : List Int) : Bool := decide (xs = ys)
theorem sameB_len {xs ys : List Int} (h : ¬ xs.length = ys.length) : sameB xs ys = false := by
  unfold sameB
  rw [decide_eq_false_iff_not]
  rintro rfl
  exact h rfl
theorem sameB_at {xs ys : List Int} {k : Nat} (h : gt ys k ≠ gt xs k) : sameB xs ys = false := by
  unfold sameB
  rw [decide_eq_false_iff_not]
  rintro rfl
  exact h rfl
theorem sameB_all {xs ys : List Int} (hl : xs.length = ys.length) (h : ∀ i, i < xs.length → gt xs i = gt ys i) : sameB xs ys = true := by
  unfold sameB
  rw [decide_eq_true_iff]
  exact eq_of_gt hl h
/-- something is so for each number below k -/
def allN (q : Nat → Bool) : Nat → Bool
  | 0 => true
  | k + 1 => allN q k && q k
theorem allN_yes {q : Nat → Bool} {k : Nat} (h : allN q k = true) (hq : q k = true) : allN q (k + 1) = true := by simp [allN, h, hq]
theorem allN_get {q : Nat → Bool} {n : Nat} (h : allN q n = true) : ∀ i, i < n → q i = true := by
  induction n with
  | zero => intro i hi; omega
  | succ n ih =>
    simp only [allN, Bool.and_eq_true] at h
    intro i hi
    by_cases e : i = n
    · subst e; exact h.2
    · exact ih h.1 i (by omega)
theorem allN_no {q : Nat → Bool} {k n : Nat} (hk : k < n) (hq : q k = false) : allN q n = false := by
  rcases h : allN q n with _ | _
  · rfl
  · rw [allN_get h k hk] at hq; cases hq
def riseAt (xs : List Int) (lo hi : Int) (k : Nat) : Bool := inR (gt xs k) lo hi && (decide (k ≤ 0) || decide (gt xs (k - 1) < gt xs k))
def risesB (xs : List Int) (lo hi : Int) : Bool := allN (riseAt xs lo hi) xs.length
theorem riseAt_out {xs : List Int} {lo hi : Int} {k : Nat} (h : inR (gt xs k) lo hi = false) : riseAt xs lo hi k = false := by simp [riseAt, h]
theorem riseAt_zero {xs : List Int} {lo hi : Int} {k : Nat} (h : inR (gt xs k) lo hi = true) (hk : k ≤ 0) : riseAt xs lo hi k = true := by simp [riseAt, h]; omega
theorem riseAt_up {xs : List Int} {lo hi : Int} {j : Nat} (h : inR (gt xs (j + 1)) lo hi = true) (hk : gt xs j < gt xs (j + 1)) : riseAt xs lo hi (j + 1) = true := by simp [riseAt, h, hk]
theorem riseAt_not {xs : List Int} {lo hi : Int} {j : Nat} (hk : ¬ gt xs j < gt xs (j + 1)) : riseAt xs lo hi (j + 1) = false := by simp [riseAt, hk]
theorem risesB_of {xs : List Int} {lo hi : Int} (h : risesB xs lo hi = true) : (∀ i, i < xs.length → lo ≤ gt xs i ∧ gt xs i ≤ hi) ∧ ∀ j, j + 1 < xs.length → gt xs j < gt xs (j + 1) := by
  refine ⟨fun i hi => ?_, fun j hj => ?_⟩
  · have := allN_get h i hi
    simp only [riseAt, Bool.and_eq_true] at this
    exact inR_of this.1
  · have := allN_get h (j + 1) hj
    simp only [riseAt, Bool.and_eq_true, Bool.or_eq_true, decide_eq_true_eq] at this
    rcases this.2 with h1 | h1
    · omega
    · exact h1
def curveOk (ls vs : List Int) : Bool := inR (ls.length : Int) 2 12 && (decide (vs.length = ls.length) && (risesB ls (-2000) 2000 && (risesB vs 0 1000000000 && (gt vs 0 == 0))))
theorem curve_no1 {ls vs : List Int} (h : inR (ls.length : Int) 2 12 = false) : curveOk ls vs = false := by simp [curveOk, h]
theorem curve_no2 {ls vs : List Int} (h : ¬ vs.length = ls.length) : curveOk ls vs = false := by simp [curveOk, h]
theorem curve_no3 {ls vs : List Int} (h : risesB ls (-2000) 2000 = false) : curveOk ls vs = false := by simp [curveOk, h]
theorem curve_no4 {ls vs : List Int} (h : risesB vs 0 1000000000 = false) : curveOk ls vs = false := by simp [curveOk, h]
theorem curve_last {ls vs : List Int} (h1 : inR (ls.length : Int) 2 12 = true) (h2 : vs.length = ls.length) (h3 : risesB ls (-2000) 2000 = true) (h4 : risesB vs 0 1000000000 = true) : curveOk ls vs = (gt vs 0 == 0) := by
  simp [curveOk, h1, h2, h3, h4]
theorem curveOk_of {ls vs : List Int} (h : curveOk ls vs = true) :
    2 ≤ ls.length ∧ ls.length ≤ 12 ∧ vs.length = ls.length ∧ (∀ i, i < ls.length → -2000 ≤ gt ls i ∧ gt ls i ≤ 2000) ∧ (∀ j, j + 1 < ls.length → gt ls j < gt ls (j + 1)) ∧
    (∀ i, i < vs.length → 0 ≤ gt vs i ∧ gt vs i ≤ 1000000000) ∧ (∀ j, j + 1 < vs.length → gt vs j < gt vs (j + 1)) ∧ gt vs 0 = 0 := by
  simp only [curveOk, Bool.and_eq_true, decide_eq_true_eq, beq_iff_eq] at h
  obtain ⟨h1, h2, h3, h4, h5⟩ := h
  have a1 := inR_of h1
  have a3 := risesB_of h3
  have a4 := risesB_of h4
  exact ⟨by omega, by omega, h2, a3.1, a3.2, a4.1, a4.2, h5⟩
end Go.Proofs.YtcjfdfjimcapkaaGreatDoor
