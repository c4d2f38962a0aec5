/-
  Plain words on two curves joined, the second part: bounds, volumes, codes. No condition.
-/
import Derived.Test.YtcgnnlgakfndaaaJoinPlain
namespace Go.Proofs.Ytcgnnlgakfndaaa
set_option linter.unusedVariables false
def joLo (ar bs : List Int) : Int := mx (gt ar 0) (gt bs 0)
def joHi (ar bs : List Int) : Int := mn (gt ar (ar.length - 1)) (gt bs (bs.length - 1))
def joB (ar av bs bv : List Int) : Int := volAt ar av (joLo ar bs) + volAt bs bv (joLo ar bs)
def joF (ar av bs bv : List Int) (y : Int) : Int := volAt ar av y + volAt bs bv y - joB ar av bs bv
def joLs (ar bs : List Int) : List Int := flTo (joQ ar bs (joLo ar bs) (joHi ar bs)) (joLo ar bs) (joHi ar bs - joLo ar bs + 1).toNat
def joVs (ar av bs bv : List Int) : List Int := (joLs ar bs).map (joF ar av bs bv)
/-- the first k numbers of a list, each turned -/
def mpTo (f : Int → Int) (l : List Int) : Nat → List Int
  | 0 => []
  | k + 1 => mpTo f l k ++ [f (gt l k)]
theorem mpTo_len (f : Int → Int) (l : List Int) (k : Nat) : (mpTo f l k).length = k := by
  induction k with
  | zero => rfl
  | succ k ih => simp [mpTo, ih]
theorem gt_mpTo (f : Int → Int) (l : List Int) (k i : Nat) (h : i < k) : gt (mpTo f l k) i = f (gt l i) := by
  induction k with
  | zero => omega
  | succ k ih =>
    rw [mpTo]
    by_cases hi : i < k
    · rw [gt_snoc_lt _ _ _ (by rw [mpTo_len]; exact hi)]
      exact ih hi
    · obtain rfl : i = k := by omega
      have h := gt_snoc_eq (mpTo f l i) (f (gt l i))
      rw [mpTo_len] at h
      exact h
theorem mpTo_map (f : Int → Int) (l : List Int) : mpTo f l l.length = l.map f := by
  refine eq_of_gt (by rw [mpTo_len, List.length_map]) fun i hi => ?_
  rw [mpTo_len] at hi
  rw [gt_mpTo _ _ _ _ hi]
  simp [gt, List.getD_eq_getElem?_getD, List.getElem?_eq_getElem hi]
def joOk (ar av bs bv : List Int) : Bool := curveOk ar av && curveOk bs bv
def joC (ar av bs bv : List Int) : Int := if joOk ar av bs bv then (if joLo ar bs < joHi ar bs then (if curveOk (joLs ar bs) (joVs ar av bs bv) then 0 else 5) else 9) else 1
def joL (ar av bs bv : List Int) : List Int := if joC ar av bs bv = 0 then joLs ar bs else []
def joV (ar av bs bv : List Int) : List Int := if joC ar av bs bv = 0 then joVs ar av bs bv else []
theorem jo_no {ar av bs bv : List Int} {k : Int} (h : joC ar av bs bv = k) (hk : k ≠ 0) : joL ar av bs bv = [] ∧ joV ar av bs bv = [] := by unfold joL joV; rw [h, if_neg hk, if_neg hk]; exact ⟨rfl, rfl⟩
theorem jo_yes {ar av bs bv : List Int} (h : joC ar av bs bv = 0) : joL ar av bs bv = joLs ar bs ∧ joV ar av bs bv = joVs ar av bs bv := by unfold joL joV; rw [h, if_pos rfl, if_pos rfl]; exact ⟨rfl, rfl⟩
theorem jo_bad1 {ar av bs bv : List Int} (h : curveOk ar av = false) : joC ar av bs bv = 1 := by simp [joC, joOk, h]
theorem jo_bad2 {ar av bs bv : List Int} (h : curveOk bs bv = false) : joC ar av bs bv = 1 := by simp [joC, joOk, h]
theorem jo_bad3 {ar av bs bv : List Int} (h : curveOk ar av = true) (h2 : curveOk bs bv = true) (h3 : ¬ joLo ar bs < joHi ar bs) : joC ar av bs bv = 9 := by simp [joC, joOk, h, h2, h3]
theorem jo_bad4 {ar av bs bv : List Int} (h : curveOk ar av = true) (h2 : curveOk bs bv = true) (h3 : joLo ar bs < joHi ar bs) (h4 : curveOk (joLs ar bs) (joVs ar av bs bv) = false) : joC ar av bs bv = 5 := by simp [joC, joOk, h, h2, h3, h4]
theorem jo_ok {ar av bs bv : List Int} (h : curveOk ar av = true) (h2 : curveOk bs bv = true) (h3 : joLo ar bs < joHi ar bs) (h4 : curveOk (joLs ar bs) (joVs ar av bs bv) = true) : joC ar av bs bv = 0 := by simp [joC, joOk, h, h2, h3, h4]
theorem joV_len (ar av bs bv : List Int) : (joV ar av bs bv).length = (joL ar av bs bv).length := by
  unfold joV joL
  split
  · simp [joVs]
  · rfl
theorem joL_len (ar av bs bv : List Int) : (joL ar av bs bv).length ≤ 12 := by
  unfold joL
  split
  next h =>
    unfold joC at h
    split at h
    · split at h
      · split at h
        next h3 => exact (curveOk_of h3).2.1
        next => omega
      · omega
    · omega
  · simp
end Go.Proofs.Ytcgnnlgakfndaaa
