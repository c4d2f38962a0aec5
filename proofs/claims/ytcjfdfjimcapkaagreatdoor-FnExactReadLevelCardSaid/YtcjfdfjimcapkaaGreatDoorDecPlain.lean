/-
  Plain words on decimal numerals and on lists of bytes in memory, without any program text. No condition.
-/
import Derived.Test.YtcjfdfjimcapkaaGreatDoorOnly
import Derived.Lib.ItoaNum
import Derived.Lib.ItoaMem
import Derived.Lib.ItoaLen
import Derived.Lib.UnsafeStr
import Derived.Lib.LaidTab
import Derived.Lib.AppendIntMem
import Derived.Laws.IdiomStrings
namespace Go.Proofs.YtcjfdfjimcapkaaGreatDoor
set_option linter.unusedVariables false
open Go.RowKit
/-- the decimal digits of a number, none for 0 -/
def decD (m : Nat) : List UInt8 := if h : m = 0 then [] else decD (m / 10) ++ [UInt8.ofNat (48 + m % 10)]
termination_by m
decreasing_by omega
theorem decD_zero : decD 0 = [] := by rw [decD, dif_pos rfl]
theorem decD_pos {m : Nat} (h : ¬ m = 0) : decD m = decD (m / 10) ++ [UInt8.ofNat (48 + m % 10)] := by rw [decD, dif_neg h]
theorem decD_eq (m : Nat) (h : ¬ m = 0) : decD m = Lib.decDigits m := by
  induction m using Nat.strongRecOn with
  | _ m ih =>
    rw [decD_pos h]
    by_cases h10 : m < 10
    · rw [Lib.decDigits_one h10, show m / 10 = 0 by omega, decD_zero, show m % 10 = m by omega]
      rfl
    · rw [Lib.decDigits, dif_neg h10, ih (m / 10) (by omega) (by omega)]
theorem decD_len {m : Nat} (h : m < 18446744073709551616) : (decD m).length ≤ 20 := by
  by_cases h0 : m = 0
  · subst h0; rw [decD_zero]; simp
  · rw [decD_eq m h0, Lib.decDigits_length]; exact Lib.nDigits_le20 m h
theorem decD_ne {m : Nat} (h : ¬ m = 0) : 0 < (decD m).length := by rw [decD_pos h, List.length_append]; simp
theorem decD_next {m N : Nat} {l : List UInt8} (h : ¬ m = 0) (hl : decD m ++ l = decD N) : decD (m / 10) ++ (UInt8.ofNat (48 + m % 10) :: l) = decD N := by
  rw [← hl, decD_pos h, List.append_assoc]
  rfl
theorem dec_byte (m : Nat) : ((UInt8.ofNat (48 + m % 10)).toNat : Int) = 48 + (m : Int) % 10 := by
  have : (UInt8.ofNat (48 + m % 10)).toNat = 48 + m % 10 := by
    rw [UInt8.toNat_ofNat']
    omega
  rw [this]
  omega
theorem dec_bytes (m : Nat) (l : List UInt8) {x : Int} (hx : x = 48 + (m : Int) % 10) : [Value.int .u8 x] ++ Lib.byteCells l = Lib.byteCells (UInt8.ofNat (48 + m % 10) :: l) := by
  subst hx
  simp only [Lib.byteCells, List.map_cons, dec_byte]
  rfl
theorem itoa_zero : Lib.itoa 0 = [48] := by rw [show (0 : Int) = ((0 : Nat) : Int) from rfl, Lib.itoa_nonneg, Lib.decDigits_one (by omega)]; rfl
theorem itoa_pos {N : Nat} {l : List UInt8} (h : ¬ N = 0) (hl : l = decD N) : l = Lib.itoa (N : Int) := by rw [Lib.itoa_nonneg, ← decD_eq N h, hl]
theorem itoa_minus {N : Nat} {l : List UInt8} (h : ¬ N = 0) (hl : l = decD N) : 45 :: l = Lib.itoa (-(N : Int)) := by rw [Lib.itoa_neg N (by omega), ← decD_eq N h, hl]
theorem byte_one (l : List UInt8) : ∀ u ∈ Lib.byteCells l, u.oneCell' = true := by
  intro u hu
  simp only [Lib.byteCells, List.mem_map] at hu
  obtain ⟨x, _, rfl⟩ := hu
  rfl
theorem bytes_len (l : List UInt8) : (Lib.byteCells l).length = l.length := by simp [Lib.byteCells]
theorem own_byte {W : World} (T : TypeId) (B : Nat) (x : Value) (hB : B ≤ W.heap.size) : (W.alloc (.cells #[x] T)).ownsRow B T 1 (.slice (some ⟨W.heap.size, 0, none⟩) 1 1) 1 [x] :=
  World.ownsRow_lit (e := T) (size := 1) W #[x] 1 hB (by unfold maxLen; omega) rfl
theorem own_none {W : World} (T : TypeId) (B sz : Nat) (hB : B ≤ W.heap.size) : (W.alloc (.cells #[] T)).ownsRow B T sz (.slice (some ⟨W.heap.size, 0, none⟩) 0 0) 0 [] :=
  World.ownsRow_lit (e := T) (size := sz) W #[] 0 hB (Nat.zero_le _) (by simp)
theorem own_form {wr : World} {B T n sz : Nat} {v : Value} {xs : List Value} (hown : wr.ownsRow B T sz v n xs) (hv : v ≠ .slice none 0 0) : ∃ g c, v = .slice (some ⟨g, 0, none⟩) n c := by
  rcases hown.2 with ⟨rfl, h0⟩ | ⟨g, cap, cur, rfl, hb, hg, hn, hm, hs, ht⟩
  · exact absurd rfl hv
  · exact ⟨_, _, rfl⟩
/-- bytes that the call has appended -/
theorem own_dec {w1 : World} {B T : Nat} {v : Value} {m : Nat} {x : Int} {l : List UInt8} (h : w1.ownsRow B T 1 v (1 + l.length) ([.int .u8 x] ++ Lib.byteCells l)) (hx : x = 48 + (m : Int) % 10) :
    w1.ownsRow B T 1 v (UInt8.ofNat (48 + m % 10) :: l).length (Lib.byteCells (UInt8.ofNat (48 + m % 10) :: l)) := by
  rw [dec_bytes m l hx, Nat.add_comm] at h
  exact h
theorem ret_str {l l' : List UInt8} (h : l = l') : Ending.returned (.string ⟨l.toArray⟩) = .returned (.string ⟨l'.toArray⟩) := by rw [h]
theorem ret_bs {a b : ByteArray} (h : a = b) : Ending.returned (.string a) = .returned (.string b) := by rw [h]
theorem str_cat (l : List UInt8) (b : UInt8) : (⟨#[b]⟩ : ByteArray) ++ ⟨l.toArray⟩ = ⟨(b :: l).toArray⟩ := by
  apply ByteArray.ext
  simp
end Go.Proofs.YtcjfdfjimcapkaaGreatDoor
