/-
  Plain words on the text of a level, without any program text. No condition.
-/
import Derived.Test.YtcjfdfjimcapkaaGreatDoorDecPlain
import Derived.Test.YtcjfdfjimcapkaaGreatDoorPlain
namespace Go.Proofs.YtcjfdfjimcapkaaGreatDoor
set_option linter.unusedVariables false
open Go.RowKit
def sgnB (n : Int) : List UInt8 := if n < 0 then [45] else [43]
/-- the text of a level whose size is a -/
def lvTxt (sg : List UInt8) (a : Nat) : List UInt8 := sg ++ Lib.itoa ((a : Int) / 100) ++ [46] ++ (Lib.itoa ((a : Int) % 100 / 10) ++ Lib.itoa ((a : Int) % 10)) ++ [109]
def lvText (n : Int) : List UInt8 := if lvl n then lvTxt (sgnB n) (absN n) else []
theorem lv_no {n : Int} (h : lvl n = false) : lvText n = [] := by simp [lvText, h]
theorem lv_yes {n : Int} (h : lvl n = true) : lvText n = lvTxt (sgnB n) (absN n) := by simp [lvText, h]
theorem sgn_neg {n : Int} (h : n < 0) : sgnB n = [45] := by simp [sgnB, h]
theorem sgn_pos {n : Int} (h : ¬ n < 0) : sgnB n = [43] := by simp [sgnB, h]
theorem dig_add (b : Nat) (h : b < 10) : Lib.decDigits (10 + b) = 49 :: Lib.decDigits b := by
  rw [Lib.decDigits_two (by omega) (by omega), Lib.decDigits_one h, show (10 + b) / 10 = 1 by omega, show (10 + b) % 10 = b by omega]
  rfl
theorem two_digits (b : Nat) (h : b < 100) : Lib.decDigits (100 + b) = 49 :: (Lib.decDigits (b / 10) ++ Lib.decDigits (b % 10)) := by
  rw [Lib.decDigits, dif_neg (by omega), show (100 + b) / 10 = 10 + b / 10 by omega, dig_add _ (by omega), Lib.decDigits_one (i := b % 10) (by omega), show (100 + b) % 10 = b % 10 by omega]
  rfl
theorem two_drop (a : Nat) : (Lib.itoa (100 + (a : Int) % 100)).drop 1 = Lib.itoa ((a : Int) % 100 / 10) ++ Lib.itoa ((a : Int) % 10) := by
  rw [show 100 + (a : Int) % 100 = ((100 + a % 100 : Nat) : Int) by omega, show (a : Int) % 100 / 10 = ((a % 100 / 10 : Nat) : Int) by omega, show (a : Int) % 10 = ((a % 100 % 10 : Nat) : Int) by omega,
    Lib.itoa_nonneg, Lib.itoa_nonneg, Lib.itoa_nonneg, two_digits _ (by omega)]
  rfl
theorem it_one (a : Nat) : 1 ≤ (Lib.itoa (100 + (a : Int) % 100)).length := by
  rw [show 100 + (a : Int) % 100 = ((100 + a % 100 : Nat) : Int) by omega, Lib.itoa_nonneg, Lib.decDigits_length]
  exact Lib.nDigits_pos _
theorem bytes_drop (l : List UInt8) : (⟨l.toArray⟩ : ByteArray).extract 1 (⟨l.toArray⟩ : ByteArray).size = ⟨(l.drop 1).toArray⟩ := by
  apply ByteArray.ext
  rw [ByteArray.data_extract]
  apply Array.ext'
  rw [Array.toList_extract]
  simp [List.extract, ByteArray.size]
  exact List.take_of_length_le (by simp)
theorem bytes_drop1 (l : List UInt8) : (⟨l.toArray⟩ : ByteArray).extract 1 l.length = ⟨(l.drop 1).toArray⟩ := bytes_drop l
end Go.Proofs.YtcjfdfjimcapkaaGreatDoor
