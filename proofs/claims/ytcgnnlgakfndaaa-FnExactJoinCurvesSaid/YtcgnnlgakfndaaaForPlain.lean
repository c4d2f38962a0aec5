/-
  Plain words on lands: the least level with a volume, a height set, heights raised. No condition.
-/
import Derived.Test.YtcgnnlgakfndaaaLandPlain
namespace Go.Proofs.Ytcgnnlgakfndaaa
set_option linter.unusedVariables false
/-- the level r is the least one with a volume of at least v -/
structure IsFor (hs : List Int) (v r : Int) : Prop where
  lo : -2000 ≤ r
  hi : r ≤ 2000
  full : v ≤ volTo hs r hs.length
  less : ∀ y, y < r → volTo hs y hs.length < v ∨ y < -2000
def forN (hs : List Int) (v : Int) : Nat → Int → Int
  | 0, s => s
  | n + 1, s => if v ≤ volTo hs s hs.length then s else forN hs v n (s + 1)
def forOf (hs : List Int) (v : Int) : Int := forN hs v 4000 (-2000)
theorem forN_spec {hs : List Int} {v : Int} (hv : v ≤ volTo hs 2000 hs.length) (n : Nat) : ∀ s : Int, -2000 ≤ s → s + (n : Int) = 2000 → (∀ y, -2000 ≤ y → y < s → volTo hs y hs.length < v) → IsFor hs v (forN hs v n s) := by
  induction n with
  | zero =>
    intro s h1 h2 h3
    have h4 : s = 2000 := by omega
    subst h4
    refine ⟨h1, by simp [forN], by simpa [forN] using hv, fun y hy => ?_⟩
    rcases Int.lt_or_le y (-2000) with h5 | h5
    · exact .inr h5
    · exact .inl (h3 y h5 hy)
  | succ n ih =>
    intro s h1 h2 h3
    unfold forN
    by_cases hq : v ≤ volTo hs s hs.length
    · rw [if_pos hq]
      refine ⟨h1, by omega, hq, fun y hy => ?_⟩
      rcases Int.lt_or_le y (-2000) with h5 | h5
      · exact .inr h5
      · exact .inl (h3 y h5 hy)
    · rw [if_neg hq]
      refine ih (s + 1) (by omega) (by omega) fun y h5 h6 => ?_
      by_cases h7 : y = s
      · subst h7; omega
      · exact h3 y h5 (by omega)
theorem forOf_spec {hs : List Int} {v : Int} (hv : v ≤ volTo hs 2000 hs.length) : IsFor hs v (forOf hs v) := forN_spec hv 4000 (-2000) (by omega) (by omega) fun y h1 h2 => by omega
theorem isFor_below {hs : List Int} {v r y : Int} (h : IsFor hs v r) (hy : -2000 ≤ y) (hr : y < r) : volTo hs y hs.length < v := by
  rcases h.less y hr with h1 | h1
  · exact h1
  · omega
theorem isFor_from {hs : List Int} {v r y : Int} (h : IsFor hs v r) (hr : r ≤ y) : v ≤ volTo hs y hs.length := Int.le_trans h.full (volTo_mono hr _)
def lfC (r c : Int) (hs : List Int) (v : Int) : Int := if landOk r c hs then (if sharedB v then (if v ≤ volTo hs 2000 hs.length then 0 else 5) else 2) else 1
def lfV (r c : Int) (hs : List Int) (v : Int) : Int := if lfC r c hs v = 0 then forOf hs v else 0
theorem lf_bad1 {r c v : Int} {hs : List Int} (h : landOk r c hs = false) : lfV r c hs v = 0 ∧ lfC r c hs v = 1 := by simp [lfV, lfC, h]
theorem lf_bad2 {r c v : Int} {hs : List Int} (h : landOk r c hs = true) (h2 : sharedB v = false) : lfV r c hs v = 0 ∧ lfC r c hs v = 2 := by simp [lfV, lfC, h, h2]
theorem lf_bad3 {r c v : Int} {hs : List Int} (h : landOk r c hs = true) (h2 : sharedB v = true) (h3 : ¬ v ≤ volTo hs 2000 hs.length) : lfV r c hs v = 0 ∧ lfC r c hs v = 5 := by simp [lfV, lfC, h, h2, h3]
theorem lf_ok {r c v : Int} {hs : List Int} (h : landOk r c hs = true) (h2 : sharedB v = true) (h3 : v ≤ volTo hs 2000 hs.length) : lfV r c hs v = forOf hs v ∧ lfC r c hs v = 0 := by simp [lfV, lfC, h, h2, h3]

/-- a list with one number set -/
theorem gt_set (hs : List Int) (i j : Nat) (x : Int) (hi : i < hs.length) : gt (hs.set i x) j = if j = i then x else gt hs j := by
  simp only [gt, List.getD_eq_getElem?_getD, List.getElem?_set]
  by_cases h : i = j
  · subst h; simp [hi]
  · simp [h, Ne.symm h]
def shOk (r c i j y : Int) : Bool := inR i 0 (r - 1) && (inR j 0 (c - 1) && lvl y)
def shC (r c : Int) (hs : List Int) (i j y : Int) : Int := if landOk r c hs then (if shOk r c i j y then 0 else 2) else 1
def shX (r c : Int) (hs : List Int) (i j y x : Int) : Int := if shC r c hs i j y = 0 then x else 0
def shL (r c : Int) (hs : List Int) (i j y : Int) : List Int := if shC r c hs i j y = 0 then hs.set (i * c + j).toNat y else []
theorem sh_bad1 {r c i j y : Int} {hs : List Int} (h : landOk r c hs = false) : shC r c hs i j y = 1 := by simp [shC, h]
theorem sh_bad2 {r c i j y : Int} {hs : List Int} (h : landOk r c hs = true) (h2 : inR i 0 (r - 1) = false) : shC r c hs i j y = 2 := by simp [shC, shOk, h, h2]
theorem sh_bad3 {r c i j y : Int} {hs : List Int} (h : landOk r c hs = true) (h2 : inR j 0 (c - 1) = false) : shC r c hs i j y = 2 := by simp [shC, shOk, h, h2]
theorem sh_bad4 {r c i j y : Int} {hs : List Int} (h : landOk r c hs = true) (h2 : lvl y = false) : shC r c hs i j y = 2 := by simp [shC, shOk, h, h2]
theorem sh_ok {r c i j y : Int} {hs : List Int} (h : landOk r c hs = true) (h2 : inR i 0 (r - 1) = true) (h3 : inR j 0 (c - 1) = true) (h4 : lvl y = true) : shC r c hs i j y = 0 := by simp [shC, shOk, h, h2, h3, h4]
theorem shX_no {r c i j y x k : Int} {hs : List Int} (h : shC r c hs i j y = k) (hk : k ≠ 0) : shX r c hs i j y x = 0 := by unfold shX; rw [h, if_neg hk]
theorem shX_ok {r c i j y x : Int} {hs : List Int} (h : shC r c hs i j y = 0) : shX r c hs i j y x = x := by unfold shX; rw [h, if_pos rfl]
theorem shL_no {r c i j y k : Int} {hs : List Int} (h : shC r c hs i j y = k) (hk : k ≠ 0) : shL r c hs i j y = [] := by unfold shL; rw [h, if_neg hk]
theorem shL_ok {r c i j y : Int} {hs : List Int} (h : shC r c hs i j y = 0) : shL r c hs i j y = hs.set (i * c + j).toNat y := by unfold shL; rw [h, if_pos rfl]
theorem shL_len (r c i j y : Int) {hs : List Int} (hm : hs.length ≤ 1048576) : (shL r c hs i j y).length ≤ 1048576 := by
  unfold shL
  split
  · rw [List.length_set]; exact hm
  · simp

theorem sh_resno {r c i j y k : Int} {hs : List Int} (h : shC r c hs i j y = k) (hk : k ≠ 0) : shX r c hs i j y r = 0 ∧ shX r c hs i j y c = 0 ∧ shL r c hs i j y = [] ∧ shC r c hs i j y = k := ⟨shX_no h hk, shX_no h hk, shL_no h hk, h⟩
theorem sh_resyes {r c i j y : Int} {hs : List Int} (h : shC r c hs i j y = 0) : shX r c hs i j y r = r ∧ shX r c hs i j y c = c ∧ shL r c hs i j y = hs.set (i * c + j).toNat y ∧ shC r c hs i j y = 0 := ⟨shX_ok h, shX_ok h, shL_ok h, h⟩
/-- the first k heights raised -/
def raiseTo (hs : List Int) (y : Int) : Nat → List Int
  | 0 => []
  | k + 1 => raiseTo hs y k ++ [mx (gt hs k) y]
theorem raiseTo_len (hs : List Int) (y : Int) (k : Nat) : (raiseTo hs y k).length = k := by
  induction k with
  | zero => rfl
  | succ k ih => simp [raiseTo, ih]
theorem gt_raiseTo (hs : List Int) (y : Int) (k i : Nat) (h : i < k) : gt (raiseTo hs y k) i = mx (gt hs i) y := by
  induction k with
  | zero => omega
  | succ k ih =>
    rw [raiseTo]
    by_cases hi : i < k
    · rw [gt_snoc_lt _ _ _ (by rw [raiseTo_len]; exact hi)]
      exact ih hi
    · obtain rfl : i = k := by omega
      have h := gt_snoc_eq (raiseTo hs y i) (mx (gt hs i) y)
      rw [raiseTo_len] at h
      exact h
/-- the heights, the first k of them raised in place -/
def upTo (hs : List Int) (y : Int) : Nat → List Int
  | 0 => hs
  | k + 1 => (upTo hs y k).set k (mx (gt hs k) y)
theorem upTo_len (hs : List Int) (y : Int) (k : Nat) : (upTo hs y k).length = hs.length := by
  induction k with
  | zero => rfl
  | succ k ih => rw [upTo, List.length_set, ih]
theorem gt_upTo (hs : List Int) (y : Int) (k j : Nat) (hk : k ≤ hs.length) : gt (upTo hs y k) j = if j < k then mx (gt hs j) y else gt hs j := by
  induction k with
  | zero => simp [upTo]
  | succ k ih =>
    rw [upTo, gt_set _ _ _ _ (by rw [upTo_len]; omega), ih (by omega)]
    by_cases e : j = k
    · subst e; simp
    · rw [if_neg e]
      by_cases h : j < k
      · rw [if_pos h, if_pos (by omega)]
      · rw [if_neg h, if_neg (by omega)]
theorem upTo_end (hs : List Int) (y : Int) : upTo hs y hs.length = raiseTo hs y hs.length := by
  refine eq_of_gt (by rw [upTo_len, raiseTo_len]) fun i hi => ?_
  rw [upTo_len] at hi
  rw [gt_upTo _ _ _ _ (Nat.le_refl _), if_pos hi, gt_raiseTo _ _ _ _ hi]
def raL (r c : Int) (hs : List Int) (y : Int) : List Int := if levelC r c hs y = 0 then raiseTo hs y hs.length else []
def raX (r c : Int) (hs : List Int) (y x : Int) : Int := if levelC r c hs y = 0 then x else 0
theorem raL_no {r c y k : Int} {hs : List Int} (h : levelC r c hs y = k) (hk : k ≠ 0) : raL r c hs y = [] := by unfold raL; rw [h, if_neg hk]
theorem raX_no {r c y x k : Int} {hs : List Int} (h : levelC r c hs y = k) (hk : k ≠ 0) : raX r c hs y x = 0 := by unfold raX; rw [h, if_neg hk]
theorem raL_ok {r c y : Int} {hs : List Int} (h : levelC r c hs y = 0) : raL r c hs y = raiseTo hs y hs.length := by unfold raL; rw [h, if_pos rfl]
theorem raX_ok {r c y x : Int} {hs : List Int} (h : levelC r c hs y = 0) : raX r c hs y x = x := by unfold raX; rw [h, if_pos rfl]
theorem ra_resno {r c y k : Int} {hs : List Int} (h : levelC r c hs y = k) (hk : k ≠ 0) : raX r c hs y r = 0 ∧ raX r c hs y c = 0 ∧ raL r c hs y = [] ∧ volV r c hs y = 0 ∧ levelC r c hs y = k := ⟨raX_no h hk, raX_no h hk, raL_no h hk, volV_no h hk, h⟩
theorem ra_resyes {r c y : Int} {hs : List Int} (h : levelC r c hs y = 0) : raX r c hs y r = r ∧ raX r c hs y c = c ∧ raL r c hs y = raiseTo hs y hs.length ∧ volV r c hs y = volTo hs y hs.length ∧ levelC r c hs y = 0 := ⟨raX_ok h, raX_ok h, raL_ok h, volV_ok h, h⟩
theorem raL_len (r c y : Int) {hs : List Int} (hm : hs.length ≤ 1048576) : (raL r c hs y).length ≤ 1048576 := by
  unfold raL
  split
  · rw [raiseTo_len]; exact hm
  · simp
end Go.Proofs.Ytcgnnlgakfndaaa
