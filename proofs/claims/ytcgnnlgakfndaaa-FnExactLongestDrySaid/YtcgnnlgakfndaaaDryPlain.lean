/-
  Plain words on dry days: how many dry days end at a day, and the most of them. No condition.
-/
import Derived.Test.YtcgnnlgakfndaaaSeq
namespace Go.Proofs.Ytcgnnlgakfndaaa
set_option linter.unusedVariables false
/-- how many dry days end with day k - 1; the most of them till then -/
def ruN (zs : List Int) : Nat → Int
  | 0 => 0
  | k + 1 => if gt zs k = 0 then ruN zs k + 1 else 0
def ruM (zs : List Int) : Nat → Int
  | 0 => 0
  | k + 1 => mx (ruM zs k) (ruN zs (k + 1))
theorem ruN_dry {zs : List Int} {k : Nat} (h : gt zs k = 0) : ruN zs (k + 1) = ruN zs k + 1 := by simp [ruN, h]
theorem ruN_wet {zs : List Int} {k : Nat} (h : gt zs k ≠ 0) : ruN zs (k + 1) = 0 := by simp [ruN, h]
theorem ruN_bd (zs : List Int) (k : Nat) : 0 ≤ ruN zs k ∧ ruN zs k ≤ (k : Int) := by
  induction k with
  | zero => simp [ruN]
  | succ k ih => unfold ruN; split <;> omega
theorem ruM_bd (zs : List Int) (k : Nat) : 0 ≤ ruM zs k ∧ ruM zs k ≤ (k : Int) ∧ ruN zs k ≤ ruM zs k := by
  induction k with
  | zero => simp [ruM, ruN]
  | succ k ih =>
    have h := ruN_bd zs (k + 1)
    have h2 := mx_bd (ruM zs k) (ruN zs (k + 1))
    rw [ruM]
    omega
theorem ruM_wet {zs : List Int} {k : Nat} (h : gt zs k ≠ 0) : ruM zs (k + 1) = ruM zs k := by
  have h2 := ruM_bd zs k
  rw [ruM, ruN_wet h]
  have h3 := mx_bd (ruM zs k) 0
  omega
/-- the greatest of the first k numbers, 0 where there is none -/
def topTo (ls : List Int) : Nat → Int
  | 0 => 0
  | k + 1 => mx (topTo ls k) (gt ls k)
theorem topTo_bd {ls : List Int} (k : Nat) : 0 ≤ topTo ls k ∧ ∀ i, i < k → gt ls i ≤ topTo ls k := by
  induction k with
  | zero => exact ⟨Int.le_refl _, fun i hi => absurd hi (by omega)⟩
  | succ k ih =>
    have h := mx_bd (topTo ls k) (gt ls k)
    refine ⟨by rw [topTo]; omega, fun i hi => ?_⟩
    rw [topTo]
    by_cases e : i = k
    · subst e; omega
    · have := ih.2 i (by omega); omega
theorem topTo_le {ls : List Int} {b : Int} (k : Nat) (hb : 0 ≤ b) (h : ∀ i, i < k → gt ls i ≤ b) : topTo ls k ≤ b := by
  induction k with
  | zero => exact hb
  | succ k ih =>
    have h1 := ih fun i hi => h i (by omega)
    have h2 := h k (by omega)
    have h3 := mx_bd (topTo ls k) (gt ls k)
    rw [topTo]; omega
theorem topTo_in {ls : List Int} (k : Nat) : topTo ls k = 0 ∨ ∃ i, i < k ∧ topTo ls k = gt ls i := by
  induction k with
  | zero => exact .inl rfl
  | succ k ih =>
    have h3 := mx_bd (topTo ls k) (gt ls k)
    rw [topTo]
    rcases h3.2.2 with h4 | h4
    · rw [h4]
      rcases ih with h5 | ⟨i, h5, h6⟩
      · exact .inl h5
      · exact .inr ⟨i, by omega, h6⟩
    · exact .inr ⟨k, by omega, h4⟩
theorem topTo_congr {xs ys : List Int} (k : Nat) (h : ∀ i, i < k → gt xs i = gt ys i) : topTo xs k = topTo ys k := by
  induction k with
  | zero => rfl
  | succ k ih => rw [topTo, topTo, ih fun i hi => h i (by omega), h k (by omega)]
theorem topTo_snoc (ls : List Int) (x : Int) : topTo (ls ++ [x]) (ls.length + 1) = mx (topTo ls ls.length) x := by
  rw [topTo, gt_snoc_eq, topTo_congr ls.length fun i hi => gt_snoc_lt _ _ _ hi]
def dryV (zs : List Int) : Int := if rainOk zs then ruM zs zs.length else 0
def dryC (zs : List Int) : Int := if rainOk zs then 0 else 1
theorem dry_bad {zs : List Int} (h : rainOk zs = false) : dryV zs = 0 ∧ dryC zs = 1 := by simp [dryV, dryC, h]
theorem dry_ok {zs : List Int} (h : rainOk zs = true) : dryV zs = ruM zs zs.length ∧ dryC zs = 0 := by simp [dryV, dryC, h]
/-- the lengths of the dry spells behind k days: the most of them is the most of the days, and a spell that still lasts is the last -/
structure Dry (zs : List Int) (k : Nat) (ls : List Int) : Prop where
  top : topTo ls ls.length = ruM zs k
  bd : ∀ i, i < ls.length → 1 ≤ gt ls i ∧ gt ls i ≤ (k : Int)
  len : ls.length ≤ k
  end' : 0 < ruN zs k → 0 < ls.length ∧ gt ls (ls.length - 1) = ruN zs k
theorem Dry.zero (zs : List Int) : Dry zs 0 [] := ⟨rfl, fun i hi => absurd hi (by simp), Nat.le_refl _, fun h => absurd h (by simp [ruN])⟩
theorem Dry.wet {zs : List Int} {k : Nat} {ls : List Int} (h : Dry zs k ls) (hz : gt zs k ≠ 0) : Dry zs (k + 1) ls :=
  ⟨by rw [ruM_wet hz]; exact h.top, fun i hi => by have := h.bd i hi; omega, by have := h.len; omega, fun h0 => by rw [ruN_wet hz] at h0; omega⟩
theorem Dry.new {zs : List Int} {k : Nat} {ls : List Int} (h : Dry zs k ls) (hz : gt zs k = 0) (h0 : ruN zs k = 0) : Dry zs (k + 1) (ls ++ [1]) := by
  have e : ruN zs (k + 1) = 1 := by rw [ruN_dry hz, h0]; rfl
  refine ⟨?_, fun i hi => ?_, ?_, fun _ => ⟨by simp, ?_⟩⟩
  · rw [List.length_append, List.length_singleton, topTo_snoc, h.top, ruM, e]
  · rw [List.length_append, List.length_singleton] at hi
    by_cases hi' : i < ls.length
    · rw [gt_snoc_lt _ _ _ hi']
      have := h.bd i hi'; omega
    · obtain rfl : i = ls.length := by omega
      rw [gt_snoc_eq]; omega
  · have := h.len; simp; omega
  · rw [List.length_append, List.length_singleton, Nat.add_sub_cancel, gt_snoc_eq, e]
theorem gt_setL (hs : List Int) (i j : Nat) (x : Int) (hi : i < hs.length) : gt (hs.set i x) j = if j = i then x else gt hs j := by
  simp only [gt, List.getD_eq_getElem?_getD, List.getElem?_set]
  by_cases h : i = j
  · subst h; simp [hi]
  · simp [h, Ne.symm h]
theorem Dry.more {zs : List Int} {k : Nat} {ls : List Int} (h : Dry zs k ls) (hz : gt zs k = 0) (h0 : 0 < ruN zs k) : Dry zs (k + 1) (ls.set (ls.length - 1) (gt ls (ls.length - 1) + 1)) := by
  obtain ⟨h1, h2⟩ := h.end' h0
  have e : ruN zs (k + 1) = ruN zs k + 1 := ruN_dry hz
  have hl : (ls.set (ls.length - 1) (gt ls (ls.length - 1) + 1)).length = ls.length := List.length_set
  have hg : ∀ j, gt (ls.set (ls.length - 1) (gt ls (ls.length - 1) + 1)) j = if j = ls.length - 1 then gt ls (ls.length - 1) + 1 else gt ls j := fun j => gt_setL _ _ _ _ (by omega)
  have hb := topTo_bd (ls := ls) ls.length
  have hm := mx_bd (ruM zs k) (ruN zs (k + 1))
  refine ⟨?_, fun i hi => ?_, ?_, fun _ => ⟨by rw [hl]; exact h1, ?_⟩⟩
  · rw [hl, ruM]
    have hb' := topTo_bd (ls := ls.set (ls.length - 1) (gt ls (ls.length - 1) + 1)) ls.length
    have up : topTo (ls.set (ls.length - 1) (gt ls (ls.length - 1) + 1)) ls.length ≤ mx (ruM zs k) (ruN zs (k + 1)) := by
      refine topTo_le _ (by have := ruN_bd zs (k + 1); omega) fun i hi => ?_
      rw [hg]
      split
      · rw [h2, e]; rw [e] at hm; omega
      · have := hb.2 i hi; rw [h.top] at this; omega
    have l1 := hb'.2 (ls.length - 1) (by omega)
    rw [hg, if_pos rfl] at l1
    have l2 : ruM zs k ≤ topTo (ls.set (ls.length - 1) (gt ls (ls.length - 1) + 1)) ls.length := by
      rw [← h.top]
      refine topTo_le _ hb'.1 fun i hi => ?_
      have := hb'.2 i hi
      rw [hg] at this
      split at this
      next hh => subst hh; omega
      · exact this
    rcases hm.2.2 with h4 | h4 <;> omega
  · rw [hl] at hi
    rw [hg]
    split
    · have := h.bd (ls.length - 1) (by omega); omega
    · have := h.bd i hi; omega
  · rw [hl]; have := h.len; omega
  · rw [hl, hg, if_pos rfl, h2, e]
/-- the reference's way: a spell of days i to k - 1 -/
theorem run_from {zs : List Int} {i k : Nat} (h0 : ruN zs i = 0) (hik : i ≤ k) (hd : ∀ j, i ≤ j → j < k → gt zs j = 0) : ruN zs k = (k : Int) - (i : Int) ∧ ruM zs k = mx (ruM zs i) ((k : Int) - (i : Int)) := by
  induction k with
  | zero =>
    obtain rfl : i = 0 := by omega
    exact ⟨by rw [h0]; simp, by simp [ruM, mx]⟩
  | succ k ih =>
    by_cases e : i = k + 1
    · subst e
      have hb := ruM_bd zs (k + 1)
      have hm := mx_bd (ruM zs (k + 1)) 0
      refine ⟨by rw [h0]; omega, ?_⟩
      rw [show ((k + 1 : Nat) : Int) - ((k + 1 : Nat) : Int) = 0 by omega]
      omega
    · obtain ⟨h1, h2⟩ := ih (by omega) fun j hj hjk => hd j hj (by omega)
      have h3 := ruN_dry (hd k (by omega) (by omega))
      refine ⟨by rw [h3, h1]; omega, ?_⟩
      rw [ruM, h2, h3, h1]
      have m1 := mx_bd (ruM zs i) ((k : Int) - (i : Int))
      have m2 := mx_bd (mx (ruM zs i) ((k : Int) - (i : Int))) ((k : Int) - (i : Int) + 1)
      have m3 := mx_bd (ruM zs i) (((k + 1 : Nat) : Int) - (i : Int))
      omega
end Go.Proofs.Ytcgnnlgakfndaaa
