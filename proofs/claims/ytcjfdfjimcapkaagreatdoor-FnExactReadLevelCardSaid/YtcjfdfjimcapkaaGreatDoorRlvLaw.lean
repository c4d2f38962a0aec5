/-
  Plain words on reading a level: the strict reading and the program's reading agree. No condition.
-/
import Derived.Test.YtcjfdfjimcapkaaGreatDoorRlvPlain
import Derived.Test.YtcjfdfjimcapkaaGreatDoorRlv
import Derived.Test.YtcjfdfjimcapkaaGreatDoorSpPlain
namespace Go.Proofs.YtcjfdfjimcapkaaGreatDoor
set_option linter.unusedVariables false
theorem lv_form {v : Int} (h : lvl v = true) : absN v ≤ 2000 ∧ lvText v = sgnB v ++ dB (absN v / 100) ++ [46] ++ (dB (absN v / 10 % 10) ++ dB (absN v % 10)) ++ [109] := by
  have hv := lvl_of h
  have ha : absN v ≤ 2000 := absN_le (by omega) (by omega)
  refine ⟨ha, ?_⟩
  obtain ⟨a, he⟩ : ∃ a, absN v = a := ⟨_, rfl⟩
  rw [lv_yes h, lvTxt]
  rw [he] at ha ⊢
  rw [show (a : Int) / 100 = ((a / 100 : Nat) : Int) by omega, show (a : Int) % 100 / 10 = ((a / 10 % 10 : Nat) : Int) by omega, show (a : Int) % 10 = ((a % 10 : Nat) : Int) by omega, Lib.itoa_nonneg, Lib.itoa_nonneg, Lib.itoa_nonneg, dB_dec (by omega), dB_dec (by omega), dB_dec (by omega)]
theorem rlN_lv {v : Int} (h : lvl v = true) : rlN (lvText v) = v := by
  have hv := lvl_of h
  obtain ⟨ha, hf⟩ := lv_form h
  have hab : (absN v : Int) = if v < 0 then -v else v := by unfold absN; split <;> omega
  obtain ⟨a, he⟩ : ∃ a, absN v = a := ⟨_, rfl⟩
  rw [he] at ha hf hab
  have e : 100 * (a / 100) + 10 * (a / 10 % 10) + a % 10 = a := by omega
  by_cases hn : v < 0
  · rw [sgn_neg hn] at hf
    have t := trim_neg ⟨a / 100, by omega⟩ ⟨a / 10 % 10, by omega⟩ ⟨a % 10, by omega⟩
    simp only [e] at t
    rw [← hf] at t
    rw [rl_neg t.2, rlE, rlD, t.1, num_dA (by omega)]
    rw [if_pos hn] at hab
    omega
  · rw [sgn_pos hn] at hf
    have t := trim_all ⟨a / 100, by omega⟩ ⟨a / 10 % 10, by omega⟩ ⟨a % 10, by omega⟩
    simp only [e] at t
    rw [← hf] at t
    rw [rl_pos t.2, rlD, t.1, num_dA (by omega)]
    rw [if_neg hn] at hab
    omega
theorem lv_ne {v : Int} (h : lvl v = true) : lvText v ≠ [] := by
  rw [(lv_form h).2]
  simp
theorem rl_lvl {l : List UInt8} (h : lvText (rlN l) = l) : lvl (rlN l) = true := by
  cases hl : lvl (rlN l)
  · rw [lv_no hl] at h
    subst h
    have : rlN [] = 0 := by decide +kernel
    rw [this] at hl
    cases hl
  · rfl
/-- the strict reading -/
structure RsOk (l : List UInt8) (n : Int) (p : List UInt8) (a b : UInt8) : Prop where
  len : 6 ≤ l.length
  last : l.getD (l.length - 1) 0 = 109
  head : l.getD 0 0 = 43 ∨ l.getD 0 0 = 45
  parts : spl 46 ((l.drop 1).take (l.length - 2)) = [p, [a, b]]
  da : inR (a.toNat : Int) 48 57 = true
  db : inR (b.toNat : Int) 48 57 = true
  num : numB p = true
  le : inR (numV p) 0 20 = true
  val : n = if l.getD 0 0 = 45 then -(100 * numV p + 10 * ((a.toNat : Int) - 48) + ((b.toNat : Int) - 48)) else 100 * numV p + 10 * ((a.toNat : Int) - 48) + ((b.toNat : Int) - 48)
set_option maxRecDepth 100000 in
theorem parts_all : ∀ sg : Fin 2, ∀ m : Fin 21, ∀ x : Fin 10, ∀ y : Fin 10, (fun l : List UInt8 => decide (6 ≤ l.length) && decide (l.getD (l.length - 1) 0 = 109) && decide (l.getD 0 0 = if sg = 0 then 43 else 45) && decide (spl 46 ((l.drop 1).take (l.length - 2)) = [dB m, [dG x, dG y]])) ([if sg = 0 then 43 else 45] ++ dB m ++ [46] ++ (dB x ++ dB y) ++ [109]) = true := by decide +kernel
theorem dG_val : ∀ x : Fin 10, (dG x).toNat = 48 + x.val := by decide +kernel
theorem num_dB {m : Nat} (h : m < 100) : numB (dB m) = true ∧ numV (dB m) = (m : Int) := by
  rw [← dB_dec h, ← Lib.itoa_nonneg]
  exact num_itoa (by omega) (by omega)
theorem rsOk_lv {v : Int} (h : lvl v = true) : ∃ p a b, RsOk (lvText v) v p a b := by
  obtain ⟨ha, hf⟩ := lv_form h
  have hab : (absN v : Int) = if v < 0 then -v else v := by unfold absN; split <;> omega
  obtain ⟨a, he⟩ : ∃ a, absN v = a := ⟨_, rfl⟩
  rw [he] at ha hf hab
  have hm : a / 100 < 21 := by omega
  have hx : a / 10 % 10 < 10 := by omega
  have hy : a % 10 < 10 := by omega
  have n1 := num_dB (m := a / 100) (by omega)
  have d1 := dG_val ⟨a / 10 % 10, hx⟩
  have d2 := dG_val ⟨a % 10, hy⟩
  simp only at d1 d2
  refine ⟨dB (a / 100), dG (a / 10 % 10), dG (a % 10), ?_⟩
  by_cases hn : v < 0
  · rw [sgn_neg hn] at hf
    have t := parts_all 1 ⟨a / 100, hm⟩ ⟨a / 10 % 10, hx⟩ ⟨a % 10, hy⟩
    have u : dB (a / 10 % 10) ++ dB (a % 10) = [dG (a / 10 % 10), dG (a % 10)] := by simp [dB, hx, hy]
    simp only [Bool.and_eq_true, decide_eq_true_eq] at t
    rw [if_pos hn] at hab
    have hf' : lvText v = [if (1 : Fin 2) = 0 then 43 else 45] ++ dB (a / 100) ++ [46] ++ (dB (a / 10 % 10) ++ dB (a % 10)) ++ [109] := hf
    rw [← hf'] at t
    have h45 : (lvText v).getD 0 0 = 45 := t.1.2
    exact ⟨t.1.1.1, t.1.1.2, .inr h45, t.2, inR_yes (by omega) (by omega), inR_yes (by omega) (by omega), n1.1, inR_yes (by omega) (by omega), by rw [if_pos h45, n1.2]; omega⟩
  · rw [sgn_pos hn] at hf
    have t := parts_all 0 ⟨a / 100, hm⟩ ⟨a / 10 % 10, hx⟩ ⟨a % 10, hy⟩
    simp only [Bool.and_eq_true, decide_eq_true_eq] at t
    rw [if_neg hn] at hab
    have hf' : lvText v = [if True then 43 else 45] ++ dB (a / 100) ++ [46] ++ (dB (a / 10 % 10) ++ dB (a % 10)) ++ [109] := hf
    rw [← hf'] at t
    have h43 : (lvText v).getD 0 0 = 43 := t.1.2
    exact ⟨t.1.1.1, t.1.1.2, .inl h43, t.2, inR_yes (by omega) (by omega), inR_yes (by omega) (by omega), n1.1, inR_yes (by omega) (by omega), by rw [if_neg (by rw [h43]; decide), n1.2]; omega⟩
/-- what the reference answers -/
def RsAns (l : List UInt8) (r : Int) (b : Bool) : Prop :=
  (b = true → lvl r = true ∧ lvText r = l) ∧ (b = false → r = 0 ∧ ∀ n p a c, RsOk l n p a c → ¬ (lvl n = true ∧ lvText n = l))
theorem rs_eq {l : List UInt8} {r : Int} {b : Bool} (h : RsAns l r b) : r = rlV l ∧ b = rlB l := by
  cases b
  · obtain ⟨h0, h1⟩ := h.2 rfl
    have hno : ¬ lvText (rlN l) = l := fun ht => by
      have hl := rl_lvl ht
      obtain ⟨p, a, c, hk⟩ := rsOk_lv hl
      rw [ht] at hk
      exact h1 _ p a c hk ⟨hl, ht⟩
    have := rl_no hno
    exact ⟨by rw [h0, this.1], this.2.symm⟩
  · obtain ⟨h0, h1⟩ := h.1 rfl
    have e : rlN l = r := by rw [← h1]; exact rlN_lv h0
    have := rl_yes (l := l) (by rw [e]; exact h1)
    exact ⟨by rw [this.1, e], this.2.symm⟩
end Go.Proofs.YtcjfdfjimcapkaaGreatDoor
