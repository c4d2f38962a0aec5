/-
  Plain words on numbers and lists of numbers, without any program text: ranges, sums, greatest common divisors. No condition.
-/
import Derived.Test.YtcjfdfjimcapkaaGreatDoorWords
namespace Go.Proofs.YtcjfdfjimcapkaaGreatDoor
set_option linter.unusedVariables false

def inR (n lo hi : Int) : Bool := decide (lo ≤ n) && decide (n ≤ hi)
theorem inR_yes {n lo hi : Int} (h1 : lo ≤ n) (h2 : n ≤ hi) : inR n lo hi = true := by simp [inR, h1, h2]
theorem inR_hi {n lo hi : Int} (h2 : ¬ n ≤ hi) : inR n lo hi = false := by simp [inR, h2]
theorem inR_lo {n lo hi : Int} (h1 : ¬ lo ≤ n) : inR n lo hi = false := by simp [inR, h1]
theorem inR_of {n lo hi : Int} (h : inR n lo hi = true) : lo ≤ n ∧ n ≤ hi := by simpa [inR] using h
theorem inR_not {n lo hi : Int} (h : inR n lo hi = false) : n < lo ∨ hi < n := by
  simp [inR] at h
  omega
def lvl (n : Int) : Bool := inR n (-2000) 2000
def rainB (n : Int) : Bool := inR n 0 3000
def heldB (n : Int) : Bool := inR n 0 100000
def sharedB (n : Int) : Bool := inR n 0 1000000000
theorem lvl_of {n : Int} (h : lvl n = true) : -2000 ≤ n ∧ n ≤ 2000 := inR_of h
theorem rainB_of {n : Int} (h : rainB n = true) : 0 ≤ n ∧ n ≤ 3000 := inR_of h
theorem heldB_of {n : Int} (h : heldB n = true) : 0 ≤ n ∧ n ≤ 100000 := inR_of h
theorem sharedB_of {n : Int} (h : sharedB n = true) : 0 ≤ n ∧ n ≤ 1000000000 := inR_of h

def mx (a b : Int) : Int := if b < a then a else b
theorem mx_gt {a b : Int} (h : b < a) : mx a b = a := by simp [mx, h]
theorem mx_le {a b : Int} (h : ¬ b < a) : mx a b = b := by simp [mx, h]
theorem mx_bd (a b : Int) : a ≤ mx a b ∧ b ≤ mx a b ∧ (mx a b = a ∨ mx a b = b) := by unfold mx; split <;> omega
def mn (a b : Int) : Int := if a < b then a else b
theorem mn_lt {a b : Int} (h : a < b) : mn a b = a := by simp [mn, h]
theorem mn_ge {a b : Int} (h : ¬ a < b) : mn a b = b := by simp [mn, h]
theorem mn_bd (a b : Int) : mn a b ≤ a ∧ mn a b ≤ b ∧ (mn a b = a ∨ mn a b = b) := by unfold mn; split <;> omega

/-- the first k numbers are all of a kind -/
def allTo (q : Int → Bool) (zs : List Int) : Nat → Bool
  | 0 => true
  | k + 1 => allTo q zs k && q (gt zs k)
theorem allTo_yes {q : Int → Bool} {zs : List Int} {k : Nat} (h : allTo q zs k = true) (hq : q (gt zs k) = true) : allTo q zs (k + 1) = true := by simp [allTo, h, hq]
theorem allTo_get {q : Int → Bool} {zs : List Int} {n : Nat} (h : allTo q zs n = true) : ∀ i, i < n → q (gt zs i) = true := by
  induction n with
  | zero => intro i hi; omega
  | succ n ih =>
    simp only [allTo, Bool.and_eq_true] at h
    intro i hi
    by_cases e : i = n
    · subst e; exact h.2
    · exact ih h.1 i (by omega)
theorem allTo_no {q : Int → Bool} {zs : List Int} {k n : Nat} (hk : k < n) (hq : q (gt zs k) = false) : allTo q zs n = false := by
  rcases h : allTo q zs n with _ | _
  · rfl
  · rw [allTo_get h k hk] at hq; cases hq

/-- rain of days -/
def rainOk (zs : List Int) : Bool := inR (zs.length : Int) 1 120 && allTo rainB zs zs.length
theorem rainOk_no {zs : List Int} (h : allTo rainB zs zs.length = false) : rainOk zs = false := by simp [rainOk, h]
theorem rainOk_last {zs : List Int} (h : allTo rainB zs zs.length = true) : rainOk zs = inR (zs.length : Int) 1 120 := by simp [rainOk, h]
theorem rainOk_len {zs : List Int} (h : inR (zs.length : Int) 1 120 = false) : rainOk zs = false := by simp [rainOk, h]
theorem rainOk_all {zs : List Int} (h : inR (zs.length : Int) 1 120 = true) : rainOk zs = allTo rainB zs zs.length := by simp [rainOk, h]
theorem rainOk_of {zs : List Int} (h : rainOk zs = true) : 1 ≤ zs.length ∧ zs.length ≤ 120 ∧ ∀ i, i < zs.length → 0 ≤ gt zs i ∧ gt zs i ≤ 3000 := by
  simp only [rainOk, Bool.and_eq_true] at h
  have h1 := inR_of h.1
  exact ⟨by omega, by omega, fun i hi => rainB_of (allTo_get h.2 i hi)⟩

/-- levels of gauges -/
def gaugesOk (zs : List Int) : Bool := allTo lvl zs zs.length && decide (zs.length ≤ 60)
def lvlCode (zs : List Int) : Int := if gaugesOk zs then 0 else 2
theorem gaugesOk_no {zs : List Int} (h : allTo lvl zs zs.length = false) : gaugesOk zs = false := by simp [gaugesOk, h]
theorem gaugesOk_long {zs : List Int} (h : 60 < zs.length) : gaugesOk zs = false := by simp [gaugesOk]; omega
theorem gaugesOk_yes {zs : List Int} (h : allTo lvl zs zs.length = true) (h2 : zs.length ≤ 60) : gaugesOk zs = true := by simp [gaugesOk, h, h2]
theorem lvlCode_no {zs : List Int} (h : allTo lvl zs zs.length = false) : lvlCode zs = 2 := by simp [lvlCode, gaugesOk_no h]
theorem lvlCode_long {zs : List Int} (h : 60 < zs.length) : lvlCode zs = 2 := by simp [lvlCode, gaugesOk_long h]
theorem lvlCode_ok {zs : List Int} (h : allTo lvl zs zs.length = true) (h2 : zs.length ≤ 60) : lvlCode zs = 0 := by simp [lvlCode, gaugesOk_yes h h2]
theorem lvlCode_true {zs : List Int} (h : gaugesOk zs = true) : lvlCode zs = 0 := by simp [lvlCode, h]
theorem lvlCode_false {zs : List Int} (h : gaugesOk zs = false) : lvlCode zs = 2 := by simp [lvlCode, h]
theorem gaugesOk_of {zs : List Int} (h : gaugesOk zs = true) : zs.length ≤ 60 ∧ ∀ i, i < zs.length → -2000 ≤ gt zs i ∧ gt zs i ≤ 2000 := by
  simp only [gaugesOk, Bool.and_eq_true, decide_eq_true_eq] at h
  exact ⟨h.2, fun i hi => lvl_of (allTo_get h.1 i hi)⟩

/-- numbers whose sums never wrap -/
def Small (zs : List Int) : Prop := ∀ i, i < zs.length → -4294967296 ≤ gt zs i ∧ gt zs i ≤ 4294967296
def sumTo (zs : List Int) : Nat → Int
  | 0 => 0
  | k + 1 => sumTo zs k + gt zs k
theorem sumTo_bd {zs : List Int} (h : Small zs) : ∀ k, k ≤ zs.length → -4294967296 * (k : Int) ≤ sumTo zs k ∧ sumTo zs k ≤ 4294967296 * (k : Int) := by
  intro k
  induction k with
  | zero => intro _; simp [sumTo]
  | succ k ih =>
    intro hk
    have h1 := ih (by omega)
    have h2 := h k (by omega)
    simp only [sumTo]
    omega

theorem gcd_step (a b : Nat) : Nat.gcd b (a % b) = Nat.gcd a b := by rw [Nat.gcd_comm a b, Nat.gcd_rec b a, Nat.gcd_comm]
theorem gcd_zero {a x y : Nat} (h : Nat.gcd a 0 = Nat.gcd x y) : ((a : Nat) : Int) = (Nat.gcd x y : Int) := by rw [← h, Nat.gcd_zero_right]

/-- the size of a number, and a greatest common divisor, behind names of their own -/
def absN (n : Int) : Nat := n.natAbs
def gcdN (a b : Nat) : Nat := Nat.gcd a b
theorem absN_nonneg {n : Int} (h : 0 ≤ n) : ((absN n : Nat) : Int) = n := by unfold absN; omega
theorem absN_neg {n : Int} (h : n < 0) : ((absN n : Nat) : Int) = -n := by unfold absN; omega
theorem absN_le {n : Int} {k : Nat} (h1 : -(k : Int) ≤ n) (h2 : n ≤ k) : absN n ≤ k := by unfold absN; omega
theorem gcdN_pos (a : Nat) {b : Nat} (h : 1 ≤ b) : (1 : Int) ≤ ((gcdN a b : Nat) : Int) := by
  have := Nat.gcd_pos_of_pos_right a (n := b) (by omega)
  unfold gcdN
  omega
theorem gcdN_le (a : Nat) {b : Nat} (h : 1 ≤ b) : ((gcdN a b : Nat) : Int) ≤ (b : Int) := by
  have := Nat.gcd_le_right a (n := b) (by omega)
  unfold gcdN
  omega
theorem tdiv_bd {n g : Int} {k : Int} (h1 : -k ≤ n) (h2 : n ≤ k) (_hg : 1 ≤ g) : -k ≤ n.tdiv g ∧ n.tdiv g ≤ k := by
  have hn : (n.tdiv g).natAbs ≤ n.natAbs := by
    rw [Int.natAbs_tdiv]
    exact Nat.div_le_self _ _
  omega
theorem ediv_bd {n g : Int} (h1 : 0 ≤ n) (hg : 1 ≤ g) : 0 ≤ n / g ∧ n / g ≤ n := ⟨Int.ediv_nonneg h1 (by omega), Int.ediv_le_self g h1⟩
theorem emod_bd (n : Int) {g : Int} (hg : 1 ≤ g) : 0 ≤ n % g ∧ n % g < g := ⟨Int.emod_nonneg n (by omega), Int.emod_lt_of_pos n (by omega)⟩
/-- a quotient rounded down: Go's quotient, less one where Go's remainder is below 0 -/
theorem floor_lt {n d : Int} (hd : 1 ≤ d) (h : n.tmod d < 0) : n.tdiv d - 1 = n / d := by
  rw [Int.tmod_eq_emod] at h
  rw [Int.tdiv_eq_ediv]
  have h0 := Int.emod_nonneg n (show d ≠ 0 by omega)
  have h1 : d.sign = 1 := Int.sign_eq_one_of_pos (by omega)
  by_cases hc : 0 ≤ n ∨ d ∣ n
  · rw [if_pos hc] at h; omega
  · rw [if_neg hc]; omega
theorem floor_ge {n d : Int} (hd : 1 ≤ d) (h : ¬ n.tmod d < 0) : n.tdiv d = n / d := by
  rw [Int.tmod_eq_emod] at h
  rw [Int.tdiv_eq_ediv]
  have h0 := Int.emod_lt_of_pos n (show 0 < d by omega)
  by_cases hc : 0 ≤ n ∨ d ∣ n
  · rw [if_pos hc]; omega
  · rw [if_neg hc] at h; omega

/-- a fraction rounded, and its code -/
def rndV (n d : Int) : Int := if inR d 1 1000000000 && inR n (-1000000000000000) 1000000000000000 then (2 * n + d) / (2 * d) else 0
def rndC (n d : Int) : Int := if inR d 1 1000000000 && inR n (-1000000000000000) 1000000000000000 then 0 else 1
theorem rnd_no1 {n d : Int} (h : inR d 1 1000000000 = false) : rndV n d = 0 ∧ rndC n d = 1 := by simp [rndV, rndC, h]
theorem rnd_no2 {n d : Int} (h : inR n (-1000000000000000) 1000000000000000 = false) : rndV n d = 0 ∧ rndC n d = 1 := by simp [rndV, rndC, h]
theorem rnd_yes {n d : Int} (h1 : inR d 1 1000000000 = true) (h2 : inR n (-1000000000000000) 1000000000000000 = true) : rndV n d = (2 * n + d) / (2 * d) ∧ rndC n d = 0 := by simp [rndV, rndC, h1, h2]
/-- the slope between two levels: the fraction and the code -/
def slopeV (a b m : Int) : Value :=
  if lvl a && lvl b && inR m 1 100000 then .tuple #[.agg #[.int .i64 ((b - a).tdiv ((gcdN (absN (b - a)) m.toNat : Nat) : Int)), .int .i64 (m / ((gcdN (absN (b - a)) m.toNat : Nat) : Int))], .int .i64 0]
  else .tuple #[.agg #[.int .i64 0, .int .i64 0], .int .i64 2]
theorem slope_bad1 {a b m : Int} (h : lvl a = false) : slopeV a b m = .tuple #[.agg #[.int .i64 0, .int .i64 0], .int .i64 2] := by simp [slopeV, h]
theorem slope_bad2 {a b m : Int} (h : lvl b = false) : slopeV a b m = .tuple #[.agg #[.int .i64 0, .int .i64 0], .int .i64 2] := by simp [slopeV, h]
theorem slope_bad3 {a b m : Int} (h : inR m 1 100000 = false) : slopeV a b m = .tuple #[.agg #[.int .i64 0, .int .i64 0], .int .i64 2] := by simp [slopeV, h]
theorem slope_ret {a b m : Int} {v : Value} (h : slopeV a b m = v) : Ending.returned v = .returned (slopeV a b m) := by rw [h]
theorem slope_ok {a b : Int} {d : Nat} (h1 : lvl a = true) (h2 : lvl b = true) (h3 : inR (d : Int) 1 100000 = true) :
    slopeV a b (d : Int) = .tuple #[.agg #[.int .i64 ((b - a).tdiv ((gcdN (absN (b - a)) d : Nat) : Int)), .int .i64 ((d : Int) / ((gcdN (absN (b - a)) d : Nat) : Int))], .int .i64 0] := by
  simp [slopeV, h1, h2, h3]

/-- the form of a fraction with a code -/
theorem slope_form (a b m : Int) : ∃ x y c : Int, slopeV a b m = .tuple #[.agg #[.int .i64 x, .int .i64 y], .int .i64 c] := by
  unfold slopeV
  split
  · exact ⟨_, _, _, rfl⟩
  · exact ⟨_, _, _, rfl⟩
/-- the mean of levels -/
def meanV (zs : List Int) : Value :=
  if gaugesOk zs then
    (if zs.length = 0 then .tuple #[.agg #[.int .i64 0, .int .i64 0], .int .i64 3]
     else .tuple #[.agg #[.int .i64 ((sumTo zs zs.length).tdiv ((gcdN (absN (sumTo zs zs.length)) zs.length : Nat) : Int)), .int .i64 ((zs.length : Int) / ((gcdN (absN (sumTo zs zs.length)) zs.length : Nat) : Int))], .int .i64 0])
  else .tuple #[.agg #[.int .i64 0, .int .i64 0], .int .i64 2]
theorem mean_bad {zs : List Int} (h : gaugesOk zs = false) : meanV zs = .tuple #[.agg #[.int .i64 0, .int .i64 0], .int .i64 2] := by simp [meanV, h]
theorem mean_none {zs : List Int} (h : gaugesOk zs = true) (h0 : zs.length = 0) : meanV zs = .tuple #[.agg #[.int .i64 0, .int .i64 0], .int .i64 3] := by simp only [meanV, h, h0, if_true]
theorem mean_ok {zs : List Int} (h : gaugesOk zs = true) (h0 : ¬ zs.length = 0) :
    meanV zs = .tuple #[.agg #[.int .i64 ((sumTo zs zs.length).tdiv ((gcdN (absN (sumTo zs zs.length)) zs.length : Nat) : Int)), .int .i64 ((zs.length : Int) / ((gcdN (absN (sumTo zs zs.length)) zs.length : Nat) : Int))], .int .i64 0] := by
  simp only [meanV, h, h0, if_true, if_false]
theorem mean_ret {zs : List Int} {v : Value} (h : meanV zs = v) : Ending.returned v = .returned (meanV zs) := by rw [h]
theorem mean_form (zs : List Int) : ∃ x y c : Int, meanV zs = .tuple #[.agg #[.int .i64 x, .int .i64 y], .int .i64 c] := by
  unfold meanV
  split
  · split
    · exact ⟨_, _, _, rfl⟩
    · exact ⟨_, _, _, rfl⟩
  · exact ⟨_, _, _, rfl⟩
theorem someCode_none {zs : List Int} (h : gaugesOk zs = true) (h0 : zs.length = 0) : (if lvlCode zs = 0 ∧ zs.length = 0 then (3 : Int) else lvlCode zs) = 3 := by rw [lvlCode_true h]; simp [h0]
theorem small_of_gauges {zs : List Int} (h : gaugesOk zs = true) : Small zs := fun i hi => by
  have := (gaugesOk_of h).2 i hi
  omega
theorem sum_levels {zs : List Int} (h : gaugesOk zs = true) : -120000 ≤ sumTo zs zs.length ∧ sumTo zs zs.length ≤ 120000 := by
  have g := gaugesOk_of h
  have b : ∀ k, k ≤ zs.length → -2000 * (k : Int) ≤ sumTo zs k ∧ sumTo zs k ≤ 2000 * (k : Int) := by
    intro k
    induction k with
    | zero => intro _; simp [sumTo]
    | succ k ih =>
      intro hk
      have h1 := ih (by omega)
      have h2 := g.2 k (by omega)
      simp only [sumTo]
      omega
  have := b zs.length (Nat.le_refl _)
  omega

end Go.Proofs.YtcjfdfjimcapkaaGreatDoor
