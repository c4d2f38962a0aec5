/-
  Plain words on nets: a net without a ditch. No condition.
-/
import Derived.Test.YthgdiddgooippaaNetPlain
namespace Go.Proofs.Ythgdiddgooippaa
set_option linter.unusedVariables false
def dropD (fl : List Int) (k : Nat) : List Int := fl.take (k * 3) ++ fl.drop ((k + 1) * 3)
theorem dropD_len {fl : List Int} {n k : Nat} (h : fl.length = n * 3) (hk : k < n) : (dropD fl k).length = (n - 1) * 3 := by
  simp only [dropD, List.length_append, List.length_take, List.length_drop]
  omega
theorem dropD_last {fl : List Int} {K : Nat} (h : fl.length = (K + 1) * 3) : dropD fl K = fl.take (K * 3) := by
  simp only [dropD]
  rw [List.drop_eq_nil_of_le (by omega), List.append_nil]
def clOk (J : Int) (n : Nat) (fl : List Int) (k : Int) : Bool := netOk J n fl && inR k 0 ((n : Int) - 1)
def clC (J : Int) (n : Nat) (fl : List Int) (k : Int) : Int := if netOk J n fl then (if inR k 0 ((n : Int) - 1) then 0 else 2) else 1
def clJ (J : Int) (n : Nat) (fl : List Int) (k : Int) : Int := if clOk J n fl k then J else 0
def clN (J : Int) (n : Nat) (fl : List Int) (k : Int) : Nat := if clOk J n fl k then n - 1 else 0
def clL (J : Int) (n : Nat) (fl : List Int) (k : Int) : List Int := if clOk J n fl k then dropD fl k.toNat else []
theorem cl_1 {J : Int} {n : Nat} {fl : List Int} {k : Int} (h : netOk J n fl = false) : clJ J n fl k = 0 ∧ clN J n fl k = 0 ∧ clL J n fl k = [] ∧ clC J n fl k = 1 := by simp [clJ, clN, clL, clC, clOk, h]
theorem cl_2 {J : Int} {n : Nat} {fl : List Int} {k : Int} (h : netOk J n fl = true) (h2 : inR k 0 ((n : Int) - 1) = false) : clJ J n fl k = 0 ∧ clN J n fl k = 0 ∧ clL J n fl k = [] ∧ clC J n fl k = 2 := by simp [clJ, clN, clL, clC, clOk, h, h2]
theorem cl_3 {J : Int} {n : Nat} {fl : List Int} {k : Int} (h : netOk J n fl = true) (h2 : inR k 0 ((n : Int) - 1) = true) : clJ J n fl k = J ∧ clN J n fl k = n - 1 ∧ clL J n fl k = dropD fl k.toNat ∧ clC J n fl k = 0 := by simp [clJ, clN, clL, clC, clOk, h, h2]
theorem clL_len {J : Int} {n : Nat} {fl : List Int} {k : Int} (h : fl.length = n * 3) : (clL J n fl k).length = clN J n fl k * 3 := by
  unfold clL clN
  split
  · rename_i hc
    simp only [clOk, Bool.and_eq_true] at hc
    have := inR_of hc.2
    exact dropD_len h (by omega)
  · rfl
theorem clN_le {J : Int} {n : Nat} {fl : List Int} {k : Int} (h : n ≤ 1048576) : clN J n fl k ≤ 1048576 := by
  unfold clN
  split <;> omega
end Go.Proofs.Ythgdiddgooippaa
