/-
  Plain words on lands, without any program text: valid lands, cells, volumes, least heights. No condition.
-/
import Derived.Test.YtcjfdfjimcapkaaGreatDoorSeq
namespace Go.Proofs.YtcjfdfjimcapkaaGreatDoor
set_option linter.unusedVariables false
def sameLen (r c : Int) (hs : List Int) : Bool := ((hs.length : Int) == r * c)
def landOk (r c : Int) (hs : List Int) : Bool := inR r 1 12 && (inR c 1 12 && (sameLen r c hs && allTo lvl hs hs.length))
theorem land_no1 {r c : Int} {hs : List Int} (h : inR r 1 12 = false) : landOk r c hs = false := by simp [landOk, h]
theorem land_no2 {r c : Int} {hs : List Int} (h : inR c 1 12 = false) : landOk r c hs = false := by simp [landOk, h]
theorem land_no3 {r c : Int} {hs : List Int} (h : ((hs.length : Int) == r * c) = false) : landOk r c hs = false := by simp [landOk, sameLen, h]
theorem land_last {r c : Int} {hs : List Int} (h : inR r 1 12 = true) (h2 : inR c 1 12 = true) (h3 : ((hs.length : Int) == r * c) = true) : landOk r c hs = allTo lvl hs hs.length := by
  simp [landOk, sameLen, h, h2, h3]
theorem mul_bd {r c : Int} (h : 1 ≤ r ∧ r ≤ 12) (h2 : 1 ≤ c ∧ c ≤ 12) : 1 ≤ r * c ∧ r * c ≤ 144 := by
  have h3 : r * c ≤ 12 * 12 := Int.mul_le_mul h.2 h2.2 (by omega) (by omega)
  have h4 : 1 * 1 ≤ r * c := Int.mul_le_mul h.1 h2.1 (by omega) (by omega)
  omega
theorem landOk_of {r c : Int} {hs : List Int} (h : landOk r c hs = true) :
    (1 ≤ r ∧ r ≤ 12) ∧ (1 ≤ c ∧ c ≤ 12) ∧ (hs.length : Int) = r * c ∧ 1 ≤ hs.length ∧ hs.length ≤ 144 ∧ ∀ i, i < hs.length → -2000 ≤ gt hs i ∧ gt hs i ≤ 2000 := by
  simp only [landOk, Bool.and_eq_true, sameLen, beq_iff_eq] at h
  obtain ⟨h1, h2, h3, h4⟩ := h
  have a1 := inR_of h1
  have a2 := inR_of h2
  have a3 := mul_bd a1 a2
  exact ⟨a1, a2, h3, by omega, by omega, fun i hi => lvl_of (allTo_get h4 i hi)⟩
/-- a cell's number -/
theorem cell_bd {r c i j : Int} {n : Nat} (h1 : 0 ≤ i ∧ i ≤ r - 1) (h2 : 0 ≤ j ∧ j ≤ c - 1) (hn : (n : Int) = r * c) : 0 ≤ i * c + j ∧ i * c + j < n := by
  have h3 : i * c ≤ (r - 1) * c := Int.mul_le_mul_of_nonneg_right h1.2 (by omega)
  have h4 : 0 ≤ i * c := Int.mul_nonneg h1.1 (by omega)
  have h5 : (r - 1) * c = r * c - c := by rw [Int.sub_mul]; omega
  omega
def heightV (r c : Int) (hs : List Int) (i j : Int) : Int := if landOk r c hs && (inR i 0 (r - 1) && inR j 0 (c - 1)) then gt hs (i * c + j).toNat else 0
def heightC (r c : Int) (hs : List Int) (i j : Int) : Int := if landOk r c hs then (if inR i 0 (r - 1) && inR j 0 (c - 1) then 0 else 2) else 1
theorem height_bad1 {r c i j : Int} {hs : List Int} (h : landOk r c hs = false) : heightV r c hs i j = 0 ∧ heightC r c hs i j = 1 := by simp [heightV, heightC, h]
theorem height_bad2 {r c i j : Int} {hs : List Int} (h : landOk r c hs = true) (h2 : inR i 0 (r - 1) = false) : heightV r c hs i j = 0 ∧ heightC r c hs i j = 2 := by simp [heightV, heightC, h, h2]
theorem height_bad3 {r c i j : Int} {hs : List Int} (h : landOk r c hs = true) (h2 : inR j 0 (c - 1) = false) : heightV r c hs i j = 0 ∧ heightC r c hs i j = 2 := by simp [heightV, heightC, h, h2]
theorem height_ok {r c i j : Int} {hs : List Int} (h : landOk r c hs = true) (h2 : inR i 0 (r - 1) = true) (h3 : inR j 0 (c - 1) = true) : heightV r c hs i j = gt hs (i * c + j).toNat ∧ heightC r c hs i j = 0 := by simp [heightV, heightC, h, h2, h3]
/-- the code of a land and a level; of a land and a cell -/
def levelC (r c : Int) (hs : List Int) (y : Int) : Int := if landOk r c hs then (if lvl y then 0 else 2) else 1
theorem levelC_1 {r c y : Int} {hs : List Int} (h : landOk r c hs = false) : levelC r c hs y = 1 := by simp [levelC, h]
theorem levelC_2 {r c y : Int} {hs : List Int} (h : landOk r c hs = true) (h2 : lvl y = false) : levelC r c hs y = 2 := by simp [levelC, h, h2]
theorem levelC_0 {r c y : Int} {hs : List Int} (h : landOk r c hs = true) (h2 : lvl y = true) : levelC r c hs y = 0 := by simp [levelC, h, h2]
/-- the volume below a level -/
def volTo (hs : List Int) (y : Int) : Nat → Int
  | 0 => 0
  | k + 1 => volTo hs y k + mx 0 (y - gt hs k)
theorem volTo_bd {hs : List Int} {y : Int} (h : ∀ i, i < hs.length → -2000 ≤ gt hs i ∧ gt hs i ≤ 2000) (hy : -2001 ≤ y ∧ y ≤ 2000) : ∀ k, k ≤ hs.length → 0 ≤ volTo hs y k ∧ volTo hs y k ≤ 4000 * (k : Int) := by
  intro k
  induction k with
  | zero => intro _; simp [volTo]
  | succ k ih =>
    intro hk
    have h1 := ih (by omega)
    have h2 := h k (by omega)
    have h3 := mx_bd 0 (y - gt hs k)
    simp only [volTo]
    omega
theorem volTo_mono {hs : List Int} {y z : Int} (h : y ≤ z) (k : Nat) : volTo hs y k ≤ volTo hs z k := by
  induction k with
  | zero => simp [volTo]
  | succ k ih =>
    have h3 := mx_bd 0 (y - gt hs k)
    have h4 := mx_bd 0 (z - gt hs k)
    simp only [volTo]
    omega
theorem vol_pos {hs : List Int} {y : Int} {k : Nat} (h : 0 < y - gt hs k) : volTo hs y (k + 1) = volTo hs y k + (y - gt hs k) := by rw [volTo, mx0_pos (by omega)]
theorem vol_neg {hs : List Int} {y : Int} {k : Nat} (h : y - gt hs k ≤ 0) : volTo hs y (k + 1) = volTo hs y k := by rw [volTo, mx0_le h]; omega
/-- how many of the first k heights are below a level -/
def belowP (hs : List Int) (y : Int) (i : Nat) : Bool := decide (gt hs i < y)
theorem belowP_yes {hs : List Int} {y : Int} {i : Nat} (h : gt hs i < y) : belowP hs y i = true := by simp [belowP, h]
theorem belowP_no {hs : List Int} {y : Int} {i : Nat} (h : ¬ gt hs i < y) : belowP hs y i = false := by simp [belowP, h]
def cntLt (hs : List Int) (y : Int) : Nat → Int
  | 0 => 0
  | k + 1 => if gt hs k < y then cntLt hs y k + 1 else cntLt hs y k
theorem cntLt_yes {hs : List Int} {y : Int} {k : Nat} (h : gt hs k < y) : cntLt hs y (k + 1) = cntLt hs y k + 1 := by simp [cntLt, h]
theorem cntLt_no {hs : List Int} {y : Int} {k : Nat} (h : ¬ gt hs k < y) : cntLt hs y (k + 1) = cntLt hs y k := by simp [cntLt, h]
theorem cntLt_idx (hs : List Int) (y : Int) (k : Nat) : ((idxTo (belowP hs y) k).length : Int) = cntLt hs y k := by
  induction k with
  | zero => rfl
  | succ k ih =>
    by_cases h : gt hs k < y
    · rw [cntLt_yes h, idxTo_yes (belowP_yes h), List.length_append, ← ih]
      simp
    · rw [cntLt_no h, idxTo_no (belowP_no h), ih]
theorem cntLt_bd (hs : List Int) (y : Int) (k : Nat) : 0 ≤ cntLt hs y k ∧ cntLt hs y k ≤ (k : Int) := by
  induction k with
  | zero => simp [cntLt]
  | succ k ih => unfold cntLt; split <;> omega
def belowV (r c : Int) (hs : List Int) (y : Int) : Int := if levelC r c hs y = 0 then cntLt hs y hs.length else 0
def volV (r c : Int) (hs : List Int) (y : Int) : Int := if levelC r c hs y = 0 then volTo hs y hs.length else 0
theorem belowV_no {r c y : Int} {hs : List Int} {k : Int} (h : levelC r c hs y = k) (hk : k ≠ 0) : belowV r c hs y = 0 := by unfold belowV; rw [h, if_neg hk]
theorem volV_no {r c y : Int} {hs : List Int} {k : Int} (h : levelC r c hs y = k) (hk : k ≠ 0) : volV r c hs y = 0 := by unfold volV; rw [h, if_neg hk]
theorem belowV_ok {r c y : Int} {hs : List Int} (h : levelC r c hs y = 0) : belowV r c hs y = cntLt hs y hs.length := by unfold belowV; rw [h, if_pos rfl]
theorem volV_ok {r c y : Int} {hs : List Int} (h : levelC r c hs y = 0) : volV r c hs y = volTo hs y hs.length := by unfold volV; rw [h, if_pos rfl]
/-- the least height -/
def leastTo (hs : List Int) : Nat → Int
  | 0 => gt hs 0
  | k + 1 => mn (leastTo hs k) (gt hs k)
theorem leastTo_one (hs : List Int) : leastTo hs 1 = gt hs 0 := by simp [leastTo, mn]
def isAt (hs : List Int) (y : Int) (i : Nat) : Bool := (gt hs i == y)
def lowL (r c : Int) (hs : List Int) : List Int := if landOk r c hs then idxTo (isAt hs (leastTo hs hs.length)) hs.length else []
def lowC (r c : Int) (hs : List Int) : Int := if landOk r c hs then 0 else 1
theorem low_bad {r c : Int} {hs : List Int} (h : landOk r c hs = false) : lowL r c hs = [] ∧ lowC r c hs = 1 := by simp [lowL, lowC, h]
theorem low_ok {r c : Int} {hs : List Int} (h : landOk r c hs = true) : lowL r c hs = idxTo (isAt hs (leastTo hs hs.length)) hs.length ∧ lowC r c hs = 0 := by simp [lowL, lowC, h]
theorem lowL_len (r c : Int) {hs : List Int} (hm : hs.length ≤ 1048576) : (lowL r c hs).length ≤ 1048576 := by
  unfold lowL
  split
  · exact Nat.le_trans (idxTo_len _ _) hm
  · simp
end Go.Proofs.YtcjfdfjimcapkaaGreatDoor
