/-
  Plain words on reading a decimal numeral of at most 18 digits, without any program text. No condition.
-/
import Derived.Test.YtcjfdfjimcapkaaGreatDoorDecPlain
import Derived.Lib.AtoiTie
import Derived.Lib.ParseIntBTie
import Derived.Lib.AtoiErr
import Derived.Lib.Strings
namespace Go.Proofs.YtcjfdfjimcapkaaGreatDoor
set_option linter.unusedVariables false
open Go.RowKit
/-- a text without a minus at its head -/
def tailD (l : List UInt8) : List UInt8 := if l.head? = some 45 then l.drop 1 else l
def isNeg (l : List UInt8) : Bool := decide (l.head? = some 45)
/-- the number that a text of at most 18 digits spells -/
def numO (l : List UInt8) : Option Int := if (tailD l).length ≤ 18 then (Lib.decNat (tailD l)).map (fun m => if isNeg l then -(m : Int) else (m : Int)) else none
def numB (l : List UInt8) : Bool := match numO l with | some v => decide (Lib.itoa v = l) | none => false
def numV (l : List UInt8) : Int := match numO l with | some v => if Lib.itoa v = l then v else 0 | none => 0
theorem num_none {l : List UInt8} (h : numO l = none) : numB l = false ∧ numV l = 0 := by simp [numB, numV, h]
theorem num_bad {l : List UInt8} {v : Int} (h : numO l = some v) (h2 : ¬ Lib.itoa v = l) : numB l = false ∧ numV l = 0 := by simp [numB, numV, h, h2]
theorem num_ok {l : List UInt8} {v : Int} (h : numO l = some v) (h2 : Lib.itoa v = l) : numB l = true ∧ numV l = v := by simp [numB, numV, h, h2]
theorem numO_long {l : List UInt8} (h : 18 < (tailD l).length) : numO l = none := by
  unfold numO
  rw [if_neg (by omega)]
theorem numO_dec {l : List UInt8} (h : Lib.decNat (tailD l) = none) : numO l = none := by
  unfold numO
  rw [h]
  split <;> rfl
theorem numO_neg {l : List UInt8} {m : Nat} (h : Lib.decNat (tailD l) = some m) (hl : (tailD l).length ≤ 18) (hn : isNeg l = true) : numO l = some (-(m : Int)) := by
  unfold numO
  rw [if_pos hl, h]
  simp [hn]
theorem numO_pos {l : List UInt8} {m : Nat} (h : Lib.decNat (tailD l) = some m) (hl : (tailD l).length ≤ 18) (hn : isNeg l = false) : numO l = some (m : Int) := by
  unfold numO
  rw [if_pos hl, h]
  simp [hn]
theorem tailD_neg (r : List UInt8) : tailD (45 :: r) = r := by simp [tailD]
theorem tailD_pos {c : UInt8} {r : List UInt8} (h : c ≠ 45) : tailD (c :: r) = c :: r := by simp [tailD, h]
theorem dig_in (u : Nat) : ∀ b ∈ Lib.decDigits u, 48 ≤ b.toNat ∧ b.toNat ≤ 57 := by
  induction u using Nat.strongRecOn with
  | _ u ih =>
    have one : ∀ k, k < 10 → 48 ≤ (UInt8.ofNat (48 + k)).toNat ∧ (UInt8.ofNat (48 + k)).toNat ≤ 57 := fun k hk => by
      rw [UInt8.toNat_ofNat']
      omega
    intro b hb
    by_cases h : u < 10
    · rw [Lib.decDigits_one h] at hb
      simp only [List.mem_singleton] at hb
      subst hb
      exact one u h
    · rw [Lib.decDigits, dif_neg h, List.mem_append] at hb
      rcases hb with hb | hb
      · exact ih _ (by omega) b hb
      · simp only [List.mem_singleton] at hb
        subst hb
        exact one _ (by omega)
theorem itoa_plus (v : Int) (r : List UInt8) : Lib.itoa v ≠ 43 :: r := by
  intro h
  unfold Lib.itoa at h
  split at h
  · simp at h
  · have := dig_in v.toNat 43 (by rw [h]; simp)
    simp at this
/-- what the library's reader of numerals gives where it gives a number, and none where it does not -/
theorem parse_num {l : List UInt8} (hl : (tailD l).length ≤ 18) (hp : l.head? ≠ some 43) : Lib.parseIntB 64 l = Lib.NumEnd.ofOption (numO l) := by
  rw [Lib.parseIntB_64]
  unfold numO
  rw [if_pos hl]
  match l with
  | [] => rfl
  | c :: r =>
    by_cases h : c = 45
    · subst h
      rw [Lib.atoiAll_minus, tailD_neg] at *
      rw [Lib.signed_short hl]
      cases Lib.decNat r <;> simp [isNeg]
    · rw [tailD_pos h] at *
      have h43 : c.toNat ≠ 43 := fun e => hp (by
        have : c = 43 := UInt8.toNat_inj.1 (by simpa using e)
        subst this; rfl)
      have h45 : c.toNat ≠ 45 := fun e => h (UInt8.toNat_inj.1 (by simpa using e))
      rw [Lib.atoiAll_plain c r h43 h45, Lib.signless_short hl]
      cases Lib.decNat (c :: r) <;> simp [isNeg, h]
theorem parse_ok {l : List UInt8} {v : Int} (h : Lib.parseIntB 64 l = .ok v) (hl : (tailD l).length ≤ 18) (h2 : Lib.itoa v = l) : numB l = true ∧ numV l = v := by
  have hp : l.head? ≠ some 43 := fun e => by
    match l, e with
    | c :: r, e =>
      simp at e
      subst e
      exact itoa_plus v r h2
  rw [parse_num hl hp] at h
  rcases hn : numO l with _ | u
  · rw [hn] at h; cases h
  · rw [hn] at h
    cases h
    exact num_ok hn h2
theorem parse_bad {l : List UInt8} {v : Int} (h : Lib.parseIntB 64 l = .ok v) (h2 : ¬ Lib.itoa v = l) : numB l = false ∧ numV l = 0 := by
  rcases hn : numO l with _ | u
  · exact num_none hn
  · by_cases hu : Lib.itoa u = l
    · have hl : (tailD l).length ≤ 18 := by
        rcases Nat.lt_or_ge 18 (tailD l).length with h1 | h1
        · rw [numO_long h1] at hn; cases hn
        · exact h1
      have hp : l.head? ≠ some 43 := fun e => by
        match l, e with
        | c :: r, e =>
          simp at e
          subst e
          exact itoa_plus u r hu
      rw [parse_num hl hp, hn] at h
      cases h
      exact absurd hu h2
    · exact num_bad hn hu
theorem parse_err {l : List UInt8} (h : ∀ v, Lib.parseIntB 64 l ≠ .ok v) : numB l = false ∧ numV l = 0 := by
  rcases hn : numO l with _ | u
  · exact num_none hn
  · by_cases hu : Lib.itoa u = l
    · have hl : (tailD l).length ≤ 18 := by
        rcases Nat.lt_or_ge 18 (tailD l).length with h1 | h1
        · rw [numO_long h1] at hn; cases hn
        · exact h1
      have hp : l.head? ≠ some 43 := fun e => by
        match l, e with
        | c :: r, e =>
          simp at e
          subst e
          exact itoa_plus u r hu
      exact absurd (by rw [parse_num hl hp, hn]; rfl) (h u)
    · exact num_bad hn hu
theorem parse_long {l : List UInt8} (h : 18 < (tailD l).length) : numB l = false ∧ numV l = 0 := num_none (numO_long h)
theorem trim_minus (l : List UInt8) : Lib.trimPrefix l [45] = tailD l := by
  unfold Lib.trimPrefix Lib.hasPrefix tailD
  match l with
  | [] => simp
  | c :: r =>
    by_cases h : c = 45
    · subst h; simp
    · have h' : ¬ (45 : UInt8) = c := fun e => h e.symm
      simp [h, h']
theorem numV_bd (l : List UInt8) : -1000000000000000000 < numV l ∧ numV l < 1000000000000000000 := by
  unfold numV
  split
  next v hv =>
    split
    · unfold numO at hv
      split at hv
      next hl =>
        rcases hd : Lib.decNat (tailD l) with _ | m
        · rw [hd] at hv; cases hv
        · rw [hd] at hv
          have hv2 : (if isNeg l = true then -(m : Int) else (m : Int)) = v := Option.some.inj hv
          have hm := Lib.decFrom_lt18 (Lib.decNat_some hd).2 hl
          split at hv2 <;> omega
      · cases hv
    · omega
  · omega
end Go.Proofs.YtcjfdfjimcapkaaGreatDoor
