/-
  Plain words on sharing out: when it can be done, the code and the shares. No condition.
-/
import Derived.Test.YtddmgjcepkimbaaSel
namespace Go.Proofs.Ytddmgjcepkimbaa
set_option linter.unusedVariables false
set_option linter.unusedSimpArgs false
open Go.RowKit

def shOk (T : Int) (ws : List Int) : Bool := allTo sharedB ws ws.length && decide (ws.length ≤ 60) && sharedB (sumTo ws ws.length) && sharedB T
def shC (T : Int) (ws : List Int) : Int := if shOk T ws = true then (if sumTo ws ws.length = 0 then 6 else 0) else 2
def shR (T : Int) (ws : List Int) : List Int := if shOk T ws = true ∧ sumTo ws ws.length ≠ 0 then shL T (sumTo ws ws.length) ws else []
theorem sh_bad {T : Int} {ws : List Int} (h : shOk T ws = false) : shR T ws = [] ∧ shC T ws = 2 := by simp [shR, shC, h]
theorem sh_zero {T : Int} {ws : List Int} (h : shOk T ws = true) (h0 : sumTo ws ws.length = 0) : shR T ws = [] ∧ shC T ws = 6 := by simp [shR, shC, h, h0]
theorem sh_yes {T : Int} {ws : List Int} (h : shOk T ws = true) (h0 : ¬ sumTo ws ws.length = 0) : shR T ws = shL T (sumTo ws ws.length) ws ∧ shC T ws = 0 := by simp [shR, shC, h, h0]
theorem sh_len (T : Int) (ws : List Int) (hm : ws.length ≤ 1048576) : (shR T ws).length ≤ 1048576 := by
  unfold shR
  split
  · rw [shL_len]; exact hm
  · simp
theorem sh_1 {T : Int} {ws : List Int} (h : allTo sharedB ws ws.length = false) : shOk T ws = false := by simp [shOk, h]
theorem sh_2 {T : Int} {ws : List Int} (h : 60 < ws.length) : shOk T ws = false := by simp [shOk]; intro _ h2; omega
theorem sh_3 {T : Int} {ws : List Int} (h : sharedB (sumTo ws ws.length) = false) : shOk T ws = false := by simp [shOk, h]
theorem sh_4 {T : Int} {ws : List Int} (h : sharedB T = false) : shOk T ws = false := by simp [shOk, h]
theorem sh_5 {T : Int} {ws : List Int} (h1 : allTo sharedB ws ws.length = true) (h2 : ¬ 60 < ws.length) (h3 : sharedB (sumTo ws ws.length) = true) (h4 : sharedB T = true) : shOk T ws = true := by simp [shOk, h1, h3, h4]; omega
theorem sh_in {ws : List Int} (h : allTo sharedB ws ws.length = true) : ∀ k, k < ws.length → 0 ≤ gt ws k ∧ gt ws k ≤ 1000000000 := fun k hk => sharedB_of (allTo_get h k hk)
theorem sh_small {ws : List Int} (h : allTo sharedB ws ws.length = true) : Small ws := fun k hk => by have := sh_in h k hk; omega
theorem sum_mono {ws : List Int} (h : ∀ k, k < ws.length → 0 ≤ gt ws k ∧ gt ws k ≤ 1000000000) : ∀ d k, k + d ≤ ws.length → sumTo ws k ≤ sumTo ws (k + d)
  | 0, k, _ => Int.le_refl _
  | d + 1, k, hk => by
    have h1 := sum_mono h d k (by omega)
    have h2 := h (k + d) (by omega)
    show sumTo ws k ≤ sumTo ws (k + d) + gt ws (k + d)
    omega
theorem sum_le {ws : List Int} (h : ∀ k, k < ws.length → 0 ≤ gt ws k ∧ gt ws k ≤ 1000000000) {k : Nat} (hk : k ≤ ws.length) : sumTo ws k ≤ sumTo ws ws.length := by
  have := sum_mono h (ws.length - k) k (by omega)
  rwa [show k + (ws.length - k) = ws.length by omega] at this
theorem sum_pos {ws : List Int} (h : ∀ k, k < ws.length → 0 ≤ gt ws k ∧ gt ws k ≤ 1000000000) {k : Nat} (hk : k ≤ ws.length) : 0 ≤ sumTo ws k := by
  have := sum_mono h k 0 (by omega)
  rw [Nat.zero_add] at this
  exact this
theorem gt_le_sum {ws : List Int} (h : ∀ k, k < ws.length → 0 ≤ gt ws k ∧ gt ws k ≤ 1000000000) {k : Nat} (hk : k < ws.length) : gt ws k ≤ sumTo ws ws.length := by
  have h1 := sum_le h (k := k + 1) (by omega)
  have h2 := sum_pos h (k := k) (by omega)
  rw [sumTo] at h1
  omega
theorem sh_over {T : Int} {ws : List Int} {k : Nat} (hk : k ≤ ws.length) (h : 1000000000 < sumTo ws k) : shOk T ws = false := by
  cases h1 : allTo sharedB ws ws.length
  · exact sh_1 h1
  · refine sh_3 ?_
    have := sum_le (sh_in h1) hk
    exact inR_hi (by omega)
theorem sh_sum {ws : List Int} (h1 : allTo sharedB ws ws.length = true) (h : sumTo ws ws.length ≤ 1000000000) : sharedB (sumTo ws ws.length) = true := inR_yes (sum_pos (sh_in h1) (Nat.le_refl _)) h
end Go.Proofs.Ytddmgjcepkimbaa
