/-
  Plain words on nets: a net with one more ditch. No condition.
-/
import Derived.Test.YthgdiddgooippaaNetPlain
namespace Go.Proofs.Ythgdiddgooippaa
set_option linter.unusedVariables false
def adOk (J : Int) (n : Nat) (fl : List Int) (a b f : Int) : Bool := netOk J n fl && (ditOk J a b f && decide (n < 20))
def adC (J : Int) (n : Nat) (fl : List Int) (a b f : Int) : Int := if netOk J n fl then (if ditOk J a b f then (if n < 20 then 0 else 5) else 2) else 1
def adJ (J : Int) (n : Nat) (fl : List Int) (a b f : Int) : Int := if adOk J n fl a b f then J else 0
def adN (J : Int) (n : Nat) (fl : List Int) (a b f : Int) : Nat := if adOk J n fl a b f then n + 1 else 0
def adL (J : Int) (n : Nat) (fl : List Int) (a b f : Int) : List Int := if adOk J n fl a b f then fl ++ [a, b, f] else []
theorem ad_1 {J : Int} {n : Nat} {fl : List Int} {a b f : Int} (h : netOk J n fl = false) : adJ J n fl a b f = 0 ∧ adN J n fl a b f = 0 ∧ adL J n fl a b f = [] ∧ adC J n fl a b f = 1 := by simp [adJ, adN, adL, adC, adOk, h]
theorem ad_2 {J : Int} {n : Nat} {fl : List Int} {a b f : Int} (h : netOk J n fl = true) (h2 : ditOk J a b f = false) : adJ J n fl a b f = 0 ∧ adN J n fl a b f = 0 ∧ adL J n fl a b f = [] ∧ adC J n fl a b f = 2 := by simp [adJ, adN, adL, adC, adOk, h, h2]
theorem ad_3 {J : Int} {n : Nat} {fl : List Int} {a b f : Int} (h : netOk J n fl = true) (h2 : ditOk J a b f = true) (h3 : ¬ n < 20) : adJ J n fl a b f = 0 ∧ adN J n fl a b f = 0 ∧ adL J n fl a b f = [] ∧ adC J n fl a b f = 5 := by simp [adJ, adN, adL, adC, adOk, h, h2, h3]
theorem ad_4 {J : Int} {n : Nat} {fl : List Int} {a b f : Int} (h : netOk J n fl = true) (h2 : ditOk J a b f = true) (h3 : n < 20) : adJ J n fl a b f = J ∧ adN J n fl a b f = n + 1 ∧ adL J n fl a b f = fl ++ [a, b, f] ∧ adC J n fl a b f = 0 := by simp [adJ, adN, adL, adC, adOk, h, h2, h3]
theorem adL_len {J : Int} {n : Nat} {fl : List Int} {a b f : Int} (h : fl.length = n * 3) : (adL J n fl a b f).length = adN J n fl a b f * 3 := by
  unfold adL adN
  split
  · simp only [List.length_append, List.length_cons, List.length_nil]
    omega
  · rfl
theorem adN_le {J : Int} {n : Nat} {fl : List Int} {a b f : Int} : adN J n fl a b f ≤ 1048576 := by
  unfold adN
  split
  · rename_i hc
    simp only [adOk, Bool.and_eq_true, decide_eq_true_eq] at hc
    omega
  · omega
end Go.Proofs.Ythgdiddgooippaa
