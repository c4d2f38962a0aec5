/-
  Plain words on the text of a land, without any program text. No condition.
-/
import Derived.Test.YtcjfdfjimcapkaaGreatDoorDecPlain
import Derived.Test.YtcjfdfjimcapkaaGreatDoorLandPlain
import Derived.Lib.Join
namespace Go.Proofs.YtcjfdfjimcapkaaGreatDoor
set_option linter.unusedVariables false
open Go.RowKit
theorem it_len {n : Int} (h0 : -9223372036854775808 ≤ n) (h1 : n ≤ 9223372036854775807) : (Lib.itoa n).length ≤ 21 := Lib.itoa_length_le n h0 h1
/-- the text of k numbers from the o-th on, with blanks between them -/
def rwTo (hs : List Int) (o : Nat) : Nat → List UInt8
  | 0 => []
  | k + 1 => rwTo hs o k ++ ((if 0 < k then [32] else []) ++ Lib.itoa (gt hs (o + k)))
theorem rw_first {hs : List Int} {o k : Nat} (h : ¬ 0 < k) : rwTo hs o (k + 1) = rwTo hs o k ++ Lib.itoa (gt hs (o + k)) := by rw [rwTo, if_neg h, List.nil_append]
theorem rw_next {hs : List Int} {o k : Nat} (h : 0 < k) : rwTo hs o (k + 1) = rwTo hs o k ++ [32] ++ Lib.itoa (gt hs (o + k)) := by rw [rwTo, if_pos h, List.append_assoc]
theorem rw_len {hs : List Int} (h : ∀ i, i < hs.length → -2000 ≤ gt hs i ∧ gt hs i ≤ 2000) {o : Nat} : ∀ k, o + k ≤ hs.length → (rwTo hs o k).length ≤ 22 * k
  | 0, _ => by simp [rwTo]
  | k + 1, hk => by
    have h1 := rw_len h (o := o) k (by omega)
    have h2 := h (o + k) (by omega)
    have h3 := it_len (n := gt hs (o + k)) (by omega) (by omega)
    rw [rwTo]
    simp only [List.length_append]
    split <;> simp <;> omega
/-- the texts of k numbers from the o-th on -/
def txTo (hs : List Int) (o : Nat) : Nat → List (List UInt8)
  | 0 => []
  | k + 1 => txTo hs o k ++ [Lib.itoa (gt hs (o + k))]
theorem tx_len (hs : List Int) (o : Nat) : ∀ k, (txTo hs o k).length = k
  | 0 => rfl
  | k + 1 => by simp [txTo, tx_len hs o k]
theorem tail_snoc (sep x : List UInt8) (r : List (List UInt8)) : Lib.joinTail sep (r ++ [x]) = Lib.joinTail sep r ++ (sep ++ x) := by simp [Lib.joinTail]
theorem tx_join (hs : List Int) (o : Nat) : ∀ k, Lib.join (txTo hs o k) [32] = rwTo hs o k
  | 0 => rfl
  | k + 1 => by
    have ih := tx_join hs o k
    rw [txTo]
    by_cases h : 0 < k
    · rw [rw_next h, ← ih]
      have hl := tx_len hs o k
      match hx : txTo hs o k with
      | [] => rw [hx] at hl; simp at hl; omega
      | y :: r => rw [List.cons_append, Lib.join_cons, Lib.join_cons, tail_snoc]; simp
    · obtain rfl : k = 0 := by omega
      rw [rw_first (by omega)]
      simp [txTo, rwTo, Lib.join_one]
/-- the text of the first i rows -/
def ltTo (hs : List Int) (c : Nat) : Nat → List UInt8
  | 0 => []
  | i + 1 => ltTo hs c i ++ rwTo hs (i * c) c ++ [10]
theorem lt_zero (hs : List Int) (c : Nat) : ltTo hs c 0 = [] := rfl
theorem lt_next (hs : List Int) (c i : Nat) : ltTo hs c (i + 1) = ltTo hs c i ++ rwTo hs (i * c) c ++ [10] := rfl
theorem row_in {r c i n : Nat} (hn : n = r * c) (hi : i < r) : i * c + c ≤ n := by
  have : (i + 1) * c ≤ r * c := Nat.mul_le_mul_right c hi
  rw [Nat.add_mul, Nat.one_mul] at this
  omega
theorem lt_len {hs : List Int} (h : ∀ i, i < hs.length → -2000 ≤ gt hs i ∧ gt hs i ≤ 2000) {r c : Nat} (hn : hs.length = r * c) (hc : c ≤ 1048576) : ∀ i, i ≤ r → (ltTo hs c i).length ≤ 23068673 * i
  | 0, _ => by simp [ltTo]
  | i + 1, hi => by
    have h1 := lt_len h hn hc i (by omega)
    have h2 := rw_len h (o := i * c) c (row_in hn (by omega))
    rw [ltTo]
    simp only [List.length_append, List.length_cons, List.length_nil]
    omega
def ltText (r c : Int) (hs : List Int) : List UInt8 := if landOk r c hs then ltTo hs c.toNat r.toNat else []
theorem ltt_no {r c : Int} {hs : List Int} (h : landOk r c hs = false) : ltText r c hs = [] := by simp [ltText, h]
theorem ltt_yes {r c : Int} {hs : List Int} (h : landOk r c hs = true) : ltText r c hs = ltTo hs c.toNat r.toNat := by simp [ltText, h]
end Go.Proofs.YtcjfdfjimcapkaaGreatDoor
