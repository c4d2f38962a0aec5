/-
  Plain words on reading a level: the program reads back the text of every level. No condition.
-/
import Derived.Test.YtcjfdfjimcapkaaGreatDoorBsr
import Derived.Test.YtcjfdfjimcapkaaGreatDoorLvPlain
import Derived.Test.YtcjfdfjimcapkaaGreatDoorFldPlain
import Derived.Lib.TrimByte
namespace Go.Proofs.YtcjfdfjimcapkaaGreatDoor
set_option linter.unusedVariables false
def dG (n : Nat) : UInt8 := UInt8.ofNat (48 + n)
/-- the digits of a small number, written out -/
def dB (m : Nat) : List UInt8 := if m < 10 then [dG m] else [dG (m / 10), dG (m % 10)]
def dA (a : Nat) : List UInt8 := if a = 0 then [] else if a < 10 then [dG a] else if a < 100 then [dG (a / 10), dG (a % 10)] else if a < 1000 then [dG (a / 100), dG (a / 10 % 10), dG (a % 10)] else [dG (a / 1000), dG (a / 100 % 10), dG (a / 10 % 10), dG (a % 10)]
theorem dec1 {m : Nat} (h : m < 10) : Lib.decDigits m = [dG m] := Lib.decDigits_one h
theorem decS {m : Nat} (h : 10 ≤ m) : Lib.decDigits m = Lib.decDigits (m / 10) ++ [dG (m % 10)] := by
  rw [Lib.decDigits, dif_neg (by omega)]
  rfl
theorem dB_dec {m : Nat} (h : m < 100) : Lib.decDigits m = dB m := by
  unfold dB
  split
  · exact dec1 (by assumption)
  · rw [decS (by omega), dec1 (by omega)]; rfl
theorem dA_dec {a : Nat} (h0 : ¬ a = 0) (h : a < 10000) : Lib.decDigits a = dA a := by
  unfold dA
  rw [if_neg h0]
  split
  · exact dec1 (by assumption)
  split
  · rw [decS (by omega), dec1 (by omega)]; rfl
  split
  · rw [decS (by omega), decS (by omega), dec1 (by omega), show a / 10 / 10 = a / 100 by omega]; rfl
  · rw [decS (by omega), decS (by omega), decS (by omega), dec1 (by omega), show a / 10 / 10 / 10 = a / 1000 by omega, show a / 10 / 10 = a / 100 by omega]; rfl
set_option maxRecDepth 100000 in
theorem trim_all : ∀ m : Fin 21, ∀ x : Fin 10, ∀ y : Fin 10, Lib.trimLeftB (strk ([43] ++ dB m ++ [46] ++ (dB x ++ dB y) ++ [109])) 48 = dA (100 * m + 10 * x + y) ∧ Lib.hasPrefix ([43] ++ dB m ++ [46] ++ (dB x ++ dB y) ++ [109]) [45] = false := by decide +kernel
set_option maxRecDepth 100000 in
theorem trim_neg : ∀ m : Fin 21, ∀ x : Fin 10, ∀ y : Fin 10, Lib.trimLeftB (Lib.trimPrefix (Lib.trimLeftB (strk ([45] ++ dB m ++ [46] ++ (dB x ++ dB y) ++ [109])) 48) [45]) 48 = dA (100 * m + 10 * x + y) ∧ Lib.hasPrefix ([45] ++ dB m ++ [46] ++ (dB x ++ dB y) ++ [109]) [45] = true := by decide +kernel
theorem num_dA {a : Nat} (h : a < 10000) : numV (dA a) = (a : Int) := by
  by_cases h0 : a = 0
  · subst h0
    rfl
  · rw [← dA_dec h0 h, ← Lib.itoa_nonneg]
    exact (num_itoa (by omega) (by omega)).2
end Go.Proofs.YtcjfdfjimcapkaaGreatDoor
