/-
  Plain words on the middle one of sorted numbers, without any program text. No condition.
-/
import Derived.Test.YtfkleaagpflpkaaPlain
import Derived.Test.YtfkleaagpflpkaaWords
namespace Go.Proofs.Ytfkleaagpflpkaa
set_option linter.unusedVariables false
/-- the numbers in ascending order -/
def srt (l : List Int) : List Int := l.mergeSort fun x y => decide (x ≤ y)
def medV (l : List Int) : Int := gt (srt l) ((l.length - 1) / 2)
theorem srt_len (l : List Int) : (srt l).length = l.length := List.length_mergeSort ..
/-- a reordering of l whose first n numbers ascend -/
def SrtTo (l L : List Int) (n : Nat) : Prop := L.Perm l ∧ ∀ a b, a < b → b < n → gt L a ≤ gt L b
/-- a reordering of l whose first i + 1 numbers ascend but for the one at k, which is not greater than those behind it -/
def InsI (l L : List Int) (i k : Nat) : Prop :=
  L.Perm l ∧ k ≤ i ∧ (∀ a b, a < b → b ≤ i → a ≠ k → b ≠ k → gt L a ≤ gt L b) ∧ ∀ b, k < b → b ≤ i → gt L k ≤ gt L b
theorem srt_first (l : List Int) : SrtTo l l 1 := ⟨List.Perm.refl _, fun a b h1 h2 => by omega⟩
theorem ins_start {l L : List Int} {i : Nat} (h : SrtTo l L i) : InsI l L i i :=
  ⟨h.1, Nat.le_refl _, fun a b h1 h2 _ h4 => h.2 a b h1 (by omega), fun b h1 h2 => by omega⟩
theorem ins_done {l L : List Int} {i k : Nat} (h : InsI l L i k) (hk : k = 0 ∨ gt L (k - 1) ≤ gt L k) : SrtTo l L (i + 1) := by
  refine ⟨h.1, fun a b h1 h2 => ?_⟩
  by_cases e2 : b = k
  · subst e2
    rcases hk with hk | hk
    · omega
    · by_cases e : a = b - 1
      · rw [e]; exact hk
      · have := h.2.2.1 a (b - 1) (by omega) (by omega) (by omega) (by omega)
        omega
  · by_cases e1 : a = k
    · rw [e1]; exact h.2.2.2 b (by omega) (by omega)
    · exact h.2.2.1 a b h1 (by omega) e1 e2
theorem gt_at (L : List Int) (i : Nat) (h : i < L.length) : gt L i = L[i] := by
  rw [gt, List.getD_eq_getElem?_getD, List.getElem?_eq_getElem h]
  rfl
theorem gt_setx (L : List Int) (i j : Nat) (y : Int) (h : i < L.length) : gt (L.set i y) j = if j = i then y else gt L j := by
  unfold gt
  rw [List.getD_eq_getElem?_getD, List.getD_eq_getElem?_getD, List.getElem?_set]
  by_cases e : i = j
  · subst e; simp [h]
  · rw [if_neg e, if_neg (by omega)]
def swp (L : List Int) (k : Nat) : List Int := (L.set k (gt L (k - 1))).set (k - 1) (gt L k)
theorem swp_len (L : List Int) (k : Nat) : (swp L k).length = L.length := by simp [swp]
theorem gt_swp (L : List Int) (k j : Nat) (h0 : 0 < k) (h : k < L.length) : gt (swp L k) j = if j = k - 1 then gt L k else if j = k then gt L (k - 1) else gt L j := by
  unfold swp
  rw [gt_setx _ _ _ _ (by rw [List.length_set]; omega), gt_setx _ _ _ _ h]
theorem ins_step {l L : List Int} {i k : Nat} (h : InsI l L i k) (h0 : 0 < k) (hl : i < L.length) (hk : gt L k < gt L (k - 1)) : InsI l (swp L k) i (k - 1) := by
  have hki := h.2.1
  have G := fun j => gt_swp L k j h0 (by omega)
  refine ⟨?_, by omega, fun a b h1 h2 h3 h4 => ?_, fun b h1 h2 => ?_⟩
  · refine List.Perm.trans ?_ h.1
    unfold swp
    rw [gt_at L k (by omega), gt_at L (k - 1) (by omega)]
    exact List.set_set_perm (by omega) (by omega)
  · rw [G, G, if_neg h3, if_neg h4]
    by_cases e1 : a = k
    · rw [if_pos e1, if_neg (by omega)]
      exact h.2.2.1 (k - 1) b (by omega) h2 (by omega) (by omega)
    · rw [if_neg e1]
      by_cases e2 : b = k
      · rw [if_pos e2]
        exact h.2.2.1 a (k - 1) (by omega) (by omega) e1 (by omega)
      · rw [if_neg e2]
        exact h.2.2.1 a b h1 h2 e1 e2
  · rw [G, G, if_pos rfl, if_neg (by omega)]
    by_cases e2 : b = k
    · rw [if_pos e2]; omega
    · rw [if_neg e2]
      exact h.2.2.2 b (by omega) h2
theorem srt_full {l L : List Int} (h : SrtTo l L L.length) : L = srt l := by
  have hp : (srt l).Perm l := List.mergeSort_perm _ _
  refine List.Perm.eq_of_pairwise (le := fun x y => x ≤ y) (fun a b _ _ h1 h2 => by omega) ?_ ?_ (h.1.trans hp.symm)
  · rw [List.pairwise_iff_getElem]
    intro a b ha hb hab
    have := h.2 a b hab hb
    rwa [gt_at L a ha, gt_at L b hb] at this
  · have := List.pairwise_mergeSort (le := fun x y : Int => decide (x ≤ y)) (fun a b c h1 h2 => by simp at *; omega) (fun a b => by simp; omega) l
    exact this.imp (fun h => by simpa using h)
/-- the number and the code that the middle one is given with -/
def medX (l : List Int) : Int := if gaugesOk l = true then (if l.length = 0 then 0 else medV l) else 0
def medC (l : List Int) : Int := if gaugesOk l = true then (if l.length = 0 then 3 else 0) else 2
theorem med_bad {l : List Int} (h : gaugesOk l = false) : medX l = 0 ∧ medC l = 2 := by simp [medX, medC, h]
theorem med_none {l : List Int} (h : gaugesOk l = true) (h0 : l.length = 0) : medX l = 0 ∧ medC l = 3 := by simp only [medX, medC, h, h0, if_true, and_self]
theorem med_ok {l : List Int} (h : gaugesOk l = true) (h0 : ¬ l.length = 0) : medX l = medV l ∧ medC l = 0 := by simp only [medX, medC, h, h0, if_true, if_false, and_self]
end Go.Proofs.Ytfkleaagpflpkaa
