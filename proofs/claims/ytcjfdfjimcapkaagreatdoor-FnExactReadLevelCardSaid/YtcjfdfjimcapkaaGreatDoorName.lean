/-
  Contracts: whether a text is a name. They hold for every text of at most 1048576 bytes.
-/
import Derived.Test.YtcjfdfjimcapkaaGreatDoorHelp
import Derived.Test.YtcjfdfjimcapkaaGreatDoorCurvePlain
import Derived.Test.YtcjfdfjimcapkaaGreatDoorBasic
import Derived.Outline
namespace Go.Proofs.YtcjfdfjimcapkaaGreatDoor
set_option linter.unusedVariables false
open Go.RowKit

/-- the k-th byte of a text as a number -/
def byt (s : ByteArray) (k : Nat) : Int := ((s.data.toList.getD k 0).toNat : Int)
theorem byt_eq (s : ByteArray) (k : Nat) (h : k < s.size) : ((s[k].toNat : Nat) : Int) = byt s k := by
  have h' : k < s.data.toList.length := by simpa using h
  have e : s.data.toList.getD k 0 = s[k] := by
    rw [List.getD_eq_getElem?_getD, List.getElem?_eq_getElem h']
    rfl
  rw [byt, e]
theorem byt_bd (s : ByteArray) (k : Nat) : 0 ≤ byt s k ∧ byt s k ≤ 255 := by
  have := (s.data.toList.getD k 0).toNat_lt
  unfold byt
  omega
def nmAt (s : ByteArray) (k : Nat) : Bool := inR (byt s k) 97 122 || ((inR (byt s k) 48 57 || (byt s k == 45)) && decide (0 < k))
def nameOk (s : ByteArray) : Bool := allN (nmAt s) s.size && inR (s.size : Int) 1 12
theorem nm_1 {s : ByteArray} {k : Nat} (h : 97 ≤ byt s k) (h2 : byt s k ≤ 122) : nmAt s k = true := by simp [nmAt, inR, h, h2]
theorem nm_2 {s : ByteArray} {k : Nat} (h : 48 ≤ byt s k) (h2 : byt s k ≤ 57) (h3 : 0 < k) : nmAt s k = true := by simp [nmAt, inR, h, h2, h3]
theorem nm_3 {s : ByteArray} {k : Nat} (h : byt s k = 45) (h3 : 0 < k) : nmAt s k = true := by simp [nmAt, h, h3]
theorem nm_4 {s : ByteArray} {k : Nat} (h : byt s k < 97 ∨ 122 < byt s k) (h3 : ¬ 0 < k) : nmAt s k = false := by
  simp [nmAt, inR, h3]
  omega
theorem nm_5 {s : ByteArray} {k : Nat} (h : byt s k < 97 ∨ 122 < byt s k) (h2 : byt s k < 48 ∨ 57 < byt s k) (h3 : ¬ byt s k = 45) : nmAt s k = false := by
  simp [nmAt, inR, h3]
  omega
theorem name_no {s : ByteArray} {k : Nat} (hk : k < s.size) (h : nmAt s k = false) : nameOk s = false := by simp [nameOk, allN_no hk h]
theorem name_end {s : ByteArray} (h : allN (nmAt s) s.size = true) : nameOk s = inR (s.size : Int) 1 12 := by simp [nameOk, h]
theorem name_len {s : ByteArray} (h : inR (s.size : Int) 1 12 = false) : nameOk s = false := by simp [nameOk, h]

set_option maxHeartbeats 400000 in
theorem l01Digit_any (x : Int) (h0 : 0 ≤ x) (h1 : x ≤ 255) (w : World) : Calls Tryz.prog 7 #[.int .u8 x] w fun e w' => e = .returned (.bool (inR x 48 57)) ∧ w = w' := by
  by_cases h2 : 48 ≤ x
  · by_cases h3 : x ≤ 57
    · have H := Lib.hid (inR_yes h2 h3)
      go_enter Tryz.func7, Tryz.ntmps7
      go_wp2
      go_ret
      exact ⟨ret_bool H.out.symm, rfl⟩
    · have H := Lib.hid (inR_hi (lo := 48) h3)
      go_enter Tryz.func7, Tryz.ntmps7
      go_wp2
      go_ret
      exact ⟨ret_bool H.out.symm, rfl⟩
  · have H := Lib.hid (inR_lo (hi := 57) h2)
    go_enter Tryz.func7, Tryz.ntmps7
    go_wp2
    go_ret
    exact ⟨ret_bool H.out.symm, rfl⟩
end Go.Proofs.YtcjfdfjimcapkaaGreatDoor
