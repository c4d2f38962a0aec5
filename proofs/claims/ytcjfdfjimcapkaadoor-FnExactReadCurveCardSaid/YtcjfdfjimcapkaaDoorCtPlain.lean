/-
  Plain words on the texts of curves and of nets, without any program text. No condition.
-/
import Derived.Test.YtcjfdfjimcapkaaDoorDecPlain
import Derived.Test.YtcjfdfjimcapkaaDoorCurvePlain
namespace Go.Proofs.YtcjfdfjimcapkaaDoor
set_option linter.unusedVariables false
open Go.RowKit
theorem it_len {n : Int} (h0 : -9223372036854775808 ≤ n) (h1 : n ≤ 9223372036854775807) : (Lib.itoa n).length ≤ 21 := Lib.itoa_length_le n h0 h1
/-- the text of the first k knots -/
def ctTo (ls vs : List Int) : Nat → List UInt8
  | 0 => []
  | k + 1 => ctTo ls vs k ++ ((if k = 0 then [] else [32]) ++ (Lib.itoa (gt ls k) ++ ([58] ++ Lib.itoa (gt vs k))))
theorem ct_first {ls vs : List Int} {k : Nat} (h : ¬ 0 < k) : ctTo ls vs (k + 1) = ctTo ls vs k ++ (Lib.itoa (gt ls k) ++ [58] ++ Lib.itoa (gt vs k)) := by
  have : k = 0 := by omega
  simp [ctTo, this]
theorem ct_next {ls vs : List Int} {k : Nat} (h : 0 < k) : ctTo ls vs (k + 1) = ctTo ls vs k ++ [32] ++ (Lib.itoa (gt ls k) ++ [58] ++ Lib.itoa (gt vs k)) := by
  have : ¬ k = 0 := by omega
  simp [ctTo, this]
theorem ct_len {ls vs : List Int} (h : ∀ i, i < ls.length → -2000 ≤ gt ls i ∧ gt ls i ≤ 2000 ∧ 0 ≤ gt vs i ∧ gt vs i ≤ 1000000000) (k : Nat) (hk : k ≤ ls.length) : (ctTo ls vs k).length ≤ 44 * k := by
  induction k with
  | zero => simp [ctTo]
  | succ k ih =>
    have h1 := ih (by omega)
    have h2 := h k (by omega)
    have h3 := it_len (n := gt ls k) (by omega) (by omega)
    have h4 := it_len (n := gt vs k) (by omega) (by omega)
    rw [ctTo]
    simp only [List.length_append]
    split <;> simp <;> omega
def ctText (ls vs : List Int) : List UInt8 := if curveOk ls vs then ctTo ls vs ls.length else []
theorem ctt_no {ls vs : List Int} (h : curveOk ls vs = false) : ctText ls vs = [] := by simp [ctText, h]
theorem ctt_yes {ls vs : List Int} (h : curveOk ls vs = true) : ctText ls vs = ctTo ls vs ls.length := by simp [ctText, h]
end Go.Proofs.YtcjfdfjimcapkaaDoor
