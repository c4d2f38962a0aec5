/-
  Plain words on the curve of a land: its levels, its volumes. No condition.
-/
import Derived.Test.YtcgnnlgakfndaaaCurvePlain
import Derived.Test.YtcgnnlgakfndaaaForPlain
namespace Go.Proofs.Ytcgnnlgakfndaaa
set_option linter.unusedVariables false
/-- the level behind k steps -/
def lvK (a s : Int) : Nat → Int
  | 0 => a
  | k + 1 => lvK a s k + s
/-- how many steps begin below b -/
def stN (b s : Int) : Nat → Int → Nat
  | 0, _ => 0
  | f + 1, y => if y < b then stN b s f (y + s) + 1 else 0
theorem lvK_shift (a s : Int) (k : Nat) : lvK (a + s) s k = lvK a s (k + 1) := by
  induction k with
  | zero => rfl
  | succ k ih => rw [lvK, ih]; rfl
theorem stN_spec {b s : Int} (hs : 1 ≤ s) (f : Nat) : ∀ y : Int, b ≤ y + (f : Int) → (∀ k, k < stN b s f y → lvK y s k < b) ∧ b ≤ lvK y s (stN b s f y) ∧ stN b s f y ≤ f := by
  induction f with
  | zero => intro y h; exact ⟨fun k hk => absurd hk (by simp [stN]), by simpa [stN, lvK] using h, Nat.le_refl _⟩
  | succ f ih =>
    intro y h
    unfold stN
    by_cases hy : y < b
    · rw [if_pos hy]
      obtain ⟨h1, h2, h3⟩ := ih (y + s) (by omega)
      refine ⟨fun k hk => ?_, ?_, by omega⟩
      · cases k with
        | zero => exact hy
        | succ k => rw [← lvK_shift]; exact h1 k (by omega)
      · rw [← lvK_shift]; exact h2
    · rw [if_neg hy]
      exact ⟨fun k hk => absurd hk (by omega), by simpa [lvK] using (by omega : b ≤ y), Nat.zero_le _⟩
def stOf (a b s : Int) : Nat := stN b s (b - a).toNat a
theorem stOf_spec {a b s : Int} (hs : 1 ≤ s) (hab : a ≤ b) : (∀ k, k < stOf a b s → lvK a s k < b) ∧ b ≤ lvK a s (stOf a b s) ∧ stOf a b s ≤ (b - a).toNat := stN_spec hs _ a (by omega)
theorem lvK_bd {a s : Int} (hs : 1 ≤ s) (k : Nat) : a ≤ lvK a s k := by
  induction k with
  | zero => exact Int.le_refl _
  | succ k ih => rw [lvK]; omega
/-- the first k levels -/
def clTo (a s : Int) : Nat → List Int
  | 0 => []
  | k + 1 => clTo a s k ++ [lvK a s k]
theorem clTo_len (a s : Int) (k : Nat) : (clTo a s k).length = k := by
  induction k with
  | zero => rfl
  | succ k ih => simp [clTo, ih]
def clL (a b s : Int) : List Int := clTo a s (stOf a b s) ++ [b]
theorem clL_len (a b s : Int) : (clL a b s).length = stOf a b s + 1 := by simp [clL, clTo_len]
/-- the volumes of the first k numbers of a list of levels -/
def cvTo (hs : List Int) (a : Int) (ls : List Int) : Nat → List Int
  | 0 => []
  | k + 1 => cvTo hs a ls k ++ [volTo hs (gt ls k) hs.length - volTo hs a hs.length]
theorem cvTo_len (hs : List Int) (a : Int) (ls : List Int) (k : Nat) : (cvTo hs a ls k).length = k := by
  induction k with
  | zero => rfl
  | succ k ih => simp [cvTo, ih]
def cvL (hs : List Int) (a b s : Int) : List Int := cvTo hs a (clL a b s) (stOf a b s + 1)
theorem cvL_len (hs : List Int) (a b s : Int) : (cvL hs a b s).length = stOf a b s + 1 := cvTo_len _ _ _ _
theorem gt_clTo (a s : Int) (k i : Nat) (h : i < k) : gt (clTo a s k) i = lvK a s i := by
  induction k with
  | zero => omega
  | succ k ih =>
    rw [clTo]
    by_cases hi : i < k
    · rw [gt_snoc_lt _ _ _ (by rw [clTo_len]; exact hi)]
      exact ih hi
    · obtain rfl : i = k := by omega
      have h := gt_snoc_eq (clTo a s i) (lvK a s i)
      rw [clTo_len] at h
      exact h
theorem gt_clL_lt {a b s : Int} {k : Nat} (h : k < stOf a b s) : gt (clL a b s) k = lvK a s k := by
  unfold clL
  rw [gt_snoc_lt _ _ _ (by rw [clTo_len]; exact h)]
  exact gt_clTo _ _ _ _ h
theorem gt_clL_last (a b s : Int) : gt (clL a b s) (stOf a b s) = b := by
  have h := gt_snoc_eq (clTo a s (stOf a b s)) b
  rw [clTo_len] at h
  exact h
def coOk (a b s : Int) : Bool := lvl a && (lvl b && (decide (a < b) && inR s 1 4000))
def coC (r c : Int) (hs : List Int) (a b s : Int) : Int :=
  if landOk r c hs then (if coOk a b s then (if stOf a b s + 1 ≤ 12 then (if curveOk (clL a b s) (cvL hs a b s) then 0 else 6) else 5) else 2) else 1
def coL (r c : Int) (hs : List Int) (a b s : Int) : List Int := if coC r c hs a b s = 0 then clL a b s else []
def coV (r c : Int) (hs : List Int) (a b s : Int) : List Int := if coC r c hs a b s = 0 then cvL hs a b s else []
theorem co_no {r c a b s k : Int} {hs : List Int} (h : coC r c hs a b s = k) (hk : k ≠ 0) : coL r c hs a b s = [] ∧ coV r c hs a b s = [] := by unfold coL coV; rw [h, if_neg hk, if_neg hk]; exact ⟨rfl, rfl⟩
theorem co_yes {r c a b s : Int} {hs : List Int} (h : coC r c hs a b s = 0) : coL r c hs a b s = clL a b s ∧ coV r c hs a b s = cvL hs a b s := by unfold coL coV; rw [h, if_pos rfl, if_pos rfl]; exact ⟨rfl, rfl⟩
theorem co_bad1 {r c a b s : Int} {hs : List Int} (h : landOk r c hs = false) : coC r c hs a b s = 1 := by simp [coC, h]
theorem co_bad2 {r c a b s : Int} {hs : List Int} (h : landOk r c hs = true) (h2 : coOk a b s = false) : coC r c hs a b s = 2 := by simp [coC, h, h2]
theorem co_bad3 {r c a b s : Int} {hs : List Int} (h : landOk r c hs = true) (h2 : coOk a b s = true) (h3 : ¬ stOf a b s + 1 ≤ 12) : coC r c hs a b s = 5 := by simp [coC, h, h2, h3]
theorem co_bad4 {r c a b s : Int} {hs : List Int} (h : landOk r c hs = true) (h2 : coOk a b s = true) (h3 : stOf a b s + 1 ≤ 12) (h4 : curveOk (clL a b s) (cvL hs a b s) = false) : coC r c hs a b s = 6 := by simp [coC, h, h2, h3, h4]
theorem co_ok {r c a b s : Int} {hs : List Int} (h : landOk r c hs = true) (h2 : coOk a b s = true) (h3 : stOf a b s + 1 ≤ 12) (h4 : curveOk (clL a b s) (cvL hs a b s) = true) : coC r c hs a b s = 0 := by simp [coC, h, h2, h3, h4]
theorem coOk_1 {a b s : Int} (h : lvl a = false) : coOk a b s = false := by simp [coOk, h]
theorem coOk_2 {a b s : Int} (h : lvl b = false) : coOk a b s = false := by simp [coOk, h]
theorem coOk_3 {a b s : Int} (h : ¬ a < b) : coOk a b s = false := by simp [coOk, h]
theorem coOk_4 {a b s : Int} (h : inR s 1 4000 = false) : coOk a b s = false := by simp [coOk, h]
theorem coOk_5 {a b s : Int} (h : lvl a = true) (h2 : lvl b = true) (h3 : a < b) (h4 : inR s 1 4000 = true) : coOk a b s = true := by simp [coOk, h, h2, h3, h4]
theorem coL_len (r c a b s : Int) (hs : List Int) : (coL r c hs a b s).length ≤ 12 := by
  unfold coL
  split
  next h =>
    rw [clL_len]
    rcases Nat.lt_or_ge 12 (stOf a b s + 1) with h1 | h1
    · unfold coC at h
      split at h
      · split at h
        · rw [if_neg (by omega)] at h; omega
        · omega
      · omega
    · exact h1
  · simp
theorem coV_len (r c a b s : Int) (hs : List Int) : (coV r c hs a b s).length = (coL r c hs a b s).length := by
  unfold coV coL
  split
  · rw [clL_len, cvL_len]
  · rfl
end Go.Proofs.Ytcgnnlgakfndaaa
