/-
  Plain words on the text of a net, without any program text. No condition.
-/
import Derived.Test.YtcjfdfjimcapkaaDoorDecPlain
import Derived.Test.YtcjfdfjimcapkaaDoorNetPlain
namespace Go.Proofs.YtcjfdfjimcapkaaDoor
set_option linter.unusedVariables false
open Go.RowKit
theorem it_len {n : Int} (h0 : -9223372036854775808 ≤ n) (h1 : n ≤ 9223372036854775807) : (Lib.itoa n).length ≤ 21 := Lib.itoa_length_le n h0 h1
/-- the text of the first k ditches -/
def ntTo (J : Int) (fl : List Int) : Nat → List UInt8
  | 0 => Lib.itoa J ++ [58]
  | k + 1 => ntTo J fl k ++ ([32] ++ Lib.itoa (dF fl k) ++ [62] ++ Lib.itoa (dT fl k) ++ [61] ++ Lib.itoa (dW fl k))
theorem nt_zero (J : Int) (fl : List Int) : ntTo J fl 0 = Lib.itoa J ++ [58] := rfl
theorem nt_next (J : Int) (fl : List Int) (k : Nat) : ntTo J fl (k + 1) = ntTo J fl k ++ ([32] ++ Lib.itoa (dF fl k) ++ [62] ++ Lib.itoa (dT fl k) ++ [61] ++ Lib.itoa (dW fl k)) := rfl
theorem nt_len {n : Nat} (J : Int) {fl : List Int} (h : ∀ i, i < n → ((0 ≤ dF fl i ∧ dF fl i ≤ J - 1) ∧ (0 ≤ dT fl i ∧ dT fl i ≤ J - 1) ∧ dF fl i ≠ dT fl i ∧ (0 ≤ dW fl i ∧ dW fl i ≤ 1000))) (h2 : 2 ≤ J) (h3 : J ≤ 10) (k : Nat) (hk : k ≤ n) : (ntTo J fl k).length ≤ 22 + 66 * k := by
  induction k with
  | zero =>
    have := it_len (n := J) (by omega) (by omega)
    simp [ntTo]
    omega
  | succ k ih =>
    have h1 := ih (by omega)
    have h4 := h k (by omega)
    have a1 := it_len (n := dF fl k) (by omega) (by omega)
    have a2 := it_len (n := dT fl k) (by omega) (by omega)
    have a3 := it_len (n := dW fl k) (by omega) (by omega)
    rw [ntTo]
    simp only [List.length_append, List.length_cons, List.length_nil]
    omega
def ntText (J : Int) (n : Nat) (fl : List Int) : List UInt8 := if netOk J n fl then ntTo J fl n else []
theorem ntt_no {J : Int} {n : Nat} {fl : List Int} (h : netOk J n fl = false) : ntText J n fl = [] := by simp [ntText, h]
theorem ntt_yes {J : Int} {n : Nat} {fl : List Int} (h : netOk J n fl = true) : ntText J n fl = ntTo J fl n := by simp [ntText, h]
end Go.Proofs.YtcjfdfjimcapkaaDoor
