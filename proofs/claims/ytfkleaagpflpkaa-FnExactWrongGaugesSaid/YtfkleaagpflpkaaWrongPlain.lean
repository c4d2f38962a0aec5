/-
  Plain words on the numbers that lie far from the middle one, without any program text. No condition.
-/
import Derived.Test.YtfkleaagpflpkaaMedPlain
import Derived.Test.YtfkleaagpflpkaaSeq
namespace Go.Proofs.Ytfkleaagpflpkaa
set_option linter.unusedVariables false
theorem med_mem {l : List Int} (h : 1 ≤ l.length) : ∃ i, i < l.length ∧ medV l = gt l i := by
  have hlt : (l.length - 1) / 2 < (srt l).length := by rw [srt_len]; omega
  have hm : (srt l)[(l.length - 1) / 2] ∈ l := (List.mergeSort_perm l _).mem_iff.1 (List.getElem_mem hlt)
  obtain ⟨i, hi, he⟩ := List.getElem_of_mem hm
  exact ⟨i, hi, by rw [medV, gt_at _ _ hlt, gt_at _ _ hi, he]⟩
theorem med_bd {l : List Int} (h : 1 ≤ l.length) (hz : ∀ i, i < l.length → -2000 ≤ gt l i ∧ gt l i ≤ 2000) : -2000 ≤ medV l ∧ medV l ≤ 2000 := by
  obtain ⟨i, hi, he⟩ := med_mem h
  rw [he]
  exact hz i hi
def wrongP (zs : List Int) (y : Int) (i : Nat) : Bool := decide (y < ((absN (gt zs i - medV zs) : Nat) : Int))
theorem wrongP_yes {zs : List Int} {y : Int} {i : Nat} (h : y < ((absN (gt zs i - medV zs) : Nat) : Int)) : wrongP zs y i = true := by simp [wrongP, h]
theorem wrongP_no {zs : List Int} {y : Int} {i : Nat} (h : ¬ y < ((absN (gt zs i - medV zs) : Nat) : Int)) : wrongP zs y i = false := by simp [wrongP, h]
def wrongL (zs : List Int) (y : Int) : List Int := if gaugesOk zs && inR y 0 4000 then idxTo (wrongP zs y) zs.length else []
def wrongC (zs : List Int) (y : Int) : Int := if gaugesOk zs && inR y 0 4000 then 0 else 2
theorem wrong_bad1 {zs : List Int} {y : Int} (h : gaugesOk zs = false) : wrongL zs y = [] ∧ wrongC zs y = 2 := by simp [wrongL, wrongC, h]
theorem wrong_bad2 {zs : List Int} {y : Int} (h : inR y 0 4000 = false) : wrongL zs y = [] ∧ wrongC zs y = 2 := by simp [wrongL, wrongC, h]
theorem wrong_ok {zs : List Int} {y : Int} (h : gaugesOk zs = true) (h2 : inR y 0 4000 = true) : wrongL zs y = idxTo (wrongP zs y) zs.length ∧ wrongC zs y = 0 := by simp [wrongL, wrongC, h, h2]
theorem wrongL_len {zs : List Int} (y : Int) (hm : zs.length ≤ 1048576) : (wrongL zs y).length ≤ 1048576 := by
  unfold wrongL
  split
  · have := idxTo_len (wrongP zs y) zs.length
    omega
  · simp
end Go.Proofs.Ytfkleaagpflpkaa
