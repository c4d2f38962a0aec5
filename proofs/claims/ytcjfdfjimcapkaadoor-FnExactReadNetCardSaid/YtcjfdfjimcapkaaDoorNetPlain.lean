/-
  Plain words on nets of ditches: a net is a number of junctions and a flat list, three numbers a ditch. No condition.
-/
import Derived.Test.YtcjfdfjimcapkaaDoorCurvePlain
namespace Go.Proofs.YtcjfdfjimcapkaaDoor
set_option linter.unusedVariables false
/-- where the i-th ditch begins, where it ends, what flows -/
def dF (fl : List Int) (i : Nat) : Int := gt fl (i * 3)
def dT (fl : List Int) (i : Nat) : Int := gt fl (i * 3 + 1)
def dW (fl : List Int) (i : Nat) : Int := gt fl (i * 3 + 2)
def ditOk (J a b f : Int) : Bool := inR a 0 (J - 1) && (inR b 0 (J - 1) && (decide (a ≠ b) && inR f 0 1000))
theorem dit_1 {J a b f : Int} (h : inR a 0 (J - 1) = false) : ditOk J a b f = false := by simp [ditOk, h]
theorem dit_2 {J a b f : Int} (h : inR b 0 (J - 1) = false) : ditOk J a b f = false := by simp [ditOk, h]
theorem dit_3 {J a b f : Int} (h : a = b) : ditOk J a b f = false := by simp [ditOk, h]
theorem dit_4 {J a b f : Int} (h : inR a 0 (J - 1) = true) (h2 : inR b 0 (J - 1) = true) (h3 : ¬ a = b) : ditOk J a b f = inR f 0 1000 := by simp [ditOk, h, h2, h3]
theorem dit_of {J a b f : Int} (h : ditOk J a b f = true) : (0 ≤ a ∧ a ≤ J - 1) ∧ (0 ≤ b ∧ b ≤ J - 1) ∧ a ≠ b ∧ (0 ≤ f ∧ f ≤ 1000) := by
  simp only [ditOk, Bool.and_eq_true, decide_eq_true_eq] at h
  exact ⟨inR_of h.1, inR_of h.2.1, h.2.2.1, inR_of h.2.2.2⟩
def ditAt (J : Int) (fl : List Int) (i : Nat) : Bool := ditOk J (dF fl i) (dT fl i) (dW fl i)
def netOk (J : Int) (n : Nat) (fl : List Int) : Bool := inR J 2 10 && (allN (ditAt J fl) n && decide (n ≤ 20))
theorem net_1 {J : Int} {n : Nat} {fl : List Int} (h : inR J 2 10 = false) : netOk J n fl = false := by simp [netOk, h]
theorem net_2 {J : Int} {n : Nat} {fl : List Int} (h : allN (ditAt J fl) n = false) : netOk J n fl = false := by simp [netOk, h]
theorem net_3 {J : Int} {n : Nat} {fl : List Int} (h : ¬ n ≤ 20) : netOk J n fl = false := by simp [netOk, h]
theorem net_4 {J : Int} {n : Nat} {fl : List Int} (h : inR J 2 10 = true) (h2 : n ≤ 20) : netOk J n fl = allN (ditAt J fl) n := by simp [netOk, h, h2]
theorem net_5 {J : Int} {n : Nat} {fl : List Int} (h : inR J 2 10 = true) (h2 : allN (ditAt J fl) n = true) (h3 : n ≤ 20) : netOk J n fl = true := by simp [netOk, h, h2, h3]
theorem netOk_of {J : Int} {n : Nat} {fl : List Int} (h : netOk J n fl = true) : (2 ≤ J ∧ J ≤ 10) ∧ n ≤ 20 ∧ ∀ i, i < n → ((0 ≤ dF fl i ∧ dF fl i ≤ J - 1) ∧ (0 ≤ dT fl i ∧ dT fl i ≤ J - 1) ∧ dF fl i ≠ dT fl i ∧ (0 ≤ dW fl i ∧ dW fl i ≤ 1000)) := by
  simp only [netOk, Bool.and_eq_true, decide_eq_true_eq] at h
  exact ⟨inR_of h.1, h.2.2, fun i hi => dit_of (allN_get h.2.1 i hi)⟩
end Go.Proofs.YtcjfdfjimcapkaaDoor
