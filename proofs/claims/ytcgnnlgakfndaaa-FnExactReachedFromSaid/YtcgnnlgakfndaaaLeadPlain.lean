/-
  Plain words on nets: what flows out of a junction; whether flows lead water to the outlet, by the program's test and by the reference's. No condition.
-/
import Derived.Test.YtcgnnlgakfndaaaCutPlain
namespace Go.Proofs.Ytcgnnlgakfndaaa
set_option linter.unusedVariables false
theorem allN_of {q : Nat → Bool} {n : Nat} (h : ∀ i, i < n → q i = true) : allN q n = true := by
  induction n with
  | zero => rfl
  | succ n ih => exact allN_yes (ih fun i hi => h i (by omega)) (h n (by omega))
def flIn (fl fs : List Int) (i : Nat) : Bool := inR (gt fs i) 0 (dW fl i)
def outTo (fl fs : List Int) (j : Int) : Nat → Int
  | 0 => 0
  | k + 1 => outTo fl fs j k + (if j = dF fl k then gt fs k else if j = dT fl k then - gt fs k else 0)
theorem outTo_F {fl fs : List Int} {j : Int} {k : Nat} (h : j = dF fl k) : outTo fl fs j (k + 1) = outTo fl fs j k + gt fs k := by simp [outTo, h]
theorem outTo_T {fl fs : List Int} {j : Int} {k : Nat} (h1 : ¬ j = dF fl k) (h : j = dT fl k) : outTo fl fs j (k + 1) = outTo fl fs j k - gt fs k := by
  simp only [outTo]
  rw [if_neg h1, if_pos h]
  omega
theorem outTo_N {fl fs : List Int} {j : Int} {k : Nat} (h1 : ¬ j = dF fl k) (h : ¬ j = dT fl k) : outTo fl fs j (k + 1) = outTo fl fs j k := by simp [outTo, h, h1]
theorem outTo_bd {fl fs : List Int} {n : Nat} (hw : ∀ i, i < n → 0 ≤ gt fs i ∧ gt fs i ≤ 1000) (j : Int) : ∀ k, k ≤ n → - (1000 * (k : Int)) ≤ outTo fl fs j k ∧ outTo fl fs j k ≤ 1000 * (k : Int)
  | 0, _ => by simp [outTo]
  | k + 1, hk => by
    have ih := outTo_bd (fl := fl) hw j k (by omega)
    have h := hw k (by omega)
    simp only [outTo]
    push_cast
    split
    · omega
    · split <;> omega
theorem flIn_bd {fl fs : List Int} {n : Nat} (h : allN (flIn fl fs) n = true) (hw : ∀ i, i < n → 0 ≤ dW fl i ∧ dW fl i ≤ 1000) : ∀ i, i < n → 0 ≤ gt fs i ∧ gt fs i ≤ 1000 := fun i hi => by
  have h1 := inR_of (allN_get h i hi)
  have h2 := hw i hi
  omega
/-- the program's test of a junction, the reference's -/
def goodAt (fl fs : List Int) (s : Int) (n i : Nat) : Bool := !(decide (outTo fl fs (1 + (i : Int)) n < 0) || (decide (0 < outTo fl fs (1 + (i : Int)) n) && decide (1 + (i : Int) ≠ s)))
def zeroAt (fl fs : List Int) (s : Int) (n i : Nat) : Bool := decide (1 + (i : Int) = s) || decide (outTo fl fs (1 + (i : Int)) n = 0)
theorem good_1 {fl fs : List Int} {s : Int} {n i : Nat} (h : outTo fl fs (1 + (i : Int)) n < 0) : goodAt fl fs s n i = false := by simp [goodAt, h]
theorem good_2 {fl fs : List Int} {s : Int} {n i : Nat} (h : 0 < outTo fl fs (1 + (i : Int)) n) (h2 : ¬ 1 + (i : Int) = s) : goodAt fl fs s n i = false := by simp [goodAt, h, h2]
theorem good_3 {fl fs : List Int} {s : Int} {n i : Nat} (h0 : ¬ outTo fl fs (1 + (i : Int)) n < 0) (h : ¬ 0 < outTo fl fs (1 + (i : Int)) n) : goodAt fl fs s n i = true := by simp [goodAt, h, h0]
theorem good_4 {fl fs : List Int} {s : Int} {n i : Nat} (h0 : ¬ outTo fl fs (1 + (i : Int)) n < 0) (h : 1 + (i : Int) = s) : goodAt fl fs s n i = true := by simp [goodAt, h, h ▸ h0]
theorem zero_1 {fl fs : List Int} {s : Int} {n i : Nat} (h : 1 + (i : Int) = s) : zeroAt fl fs s n i = true := by simp [zeroAt, h]
theorem zero_2 {fl fs : List Int} {s : Int} {n i : Nat} (h : outTo fl fs (1 + (i : Int)) n = 0) : zeroAt fl fs s n i = true := by simp [zeroAt, h]
theorem zero_3 {fl fs : List Int} {s : Int} {n i : Nat} (h : ¬ 1 + (i : Int) = s) (h2 : ¬ outTo fl fs (1 + (i : Int)) n = 0) : zeroAt fl fs s n i = false := by simp [zeroAt, h, h2]
def ldB (J : Int) (n : Nat) (fl fs : List Int) (s : Int) : Bool := allN (flIn fl fs) n && allN (goodAt fl fs s n) (J - 1).toNat
theorem ld_1 {J : Int} {n : Nat} {fl fs : List Int} {s : Int} (h : allN (flIn fl fs) n = false) : ldB J n fl fs s = false := by simp [ldB, h]
theorem ld_2 {J : Int} {n : Nat} {fl fs : List Int} {s : Int} (h : allN (flIn fl fs) n = true) : ldB J n fl fs s = allN (goodAt fl fs s n) (J - 1).toNat := by simp [ldB, h]
theorem ld_3 {J : Int} {n : Nat} {fl fs : List Int} {s : Int} (h : allN (zeroAt fl fs s n) (J - 1).toNat = false) : ldB J n fl fs s = false := by
  cases hb : ldB J n fl fs s
  · rfl
  · exfalso
    simp only [ldB, Bool.and_eq_true] at hb
    have : allN (zeroAt fl fs s n) (J - 1).toNat = true := allN_of fun i hi => by
      have hg := allN_get hb.2 i hi
      simp only [goodAt, Bool.not_eq_true', Bool.or_eq_false_iff, Bool.and_eq_false_iff, decide_eq_false_iff_not] at hg
      by_cases e : 1 + (i : Int) = s
      · exact zero_1 e
      · refine zero_2 ?_
        rcases hg.2 with h2 | h2
        · have := hg.1; omega
        · exact absurd e (by simpa using h2)
    rw [this] at h
    cases h
theorem ld_4 {J : Int} {n : Nat} {fl fs : List Int} {s : Int} (h : allN (flIn fl fs) n = true) (h2 : allN (zeroAt fl fs s n) (J - 1).toNat = true) (hs : 1 ≤ s ∧ s ≤ J - 1) : ldB J n fl fs s = decide (0 ≤ outTo fl fs s n) := by
  rw [ld_2 h]
  have e : 1 + (((s - 1).toNat : Nat) : Int) = s := by omega
  by_cases hp : 0 ≤ outTo fl fs s n
  · rw [decide_eq_true hp]
    refine allN_of fun i hi => ?_
    have hz := allN_get h2 i hi
    simp only [zeroAt, Bool.or_eq_true, decide_eq_true_eq] at hz
    rcases hz with hz | hz
    · exact good_4 (by rw [hz]; omega) hz
    · exact good_3 (by omega) (by omega)
  · rw [decide_eq_false hp]
    exact allN_no (k := (s - 1).toNat) (by omega) (good_1 (by rw [e]; omega))
/-- the code of a net, a junction and flows -/
def ncC (J : Int) (n : Nat) (fl : List Int) (s : Int) : Int := if netOk J n fl then (if inR s 1 (J - 1) then 0 else 2) else 1
theorem nc_1 {J : Int} {n : Nat} {fl : List Int} {s : Int} (h : netOk J n fl = false) : ncC J n fl s = 1 := by simp [ncC, h]
theorem nc_2 {J : Int} {n : Nat} {fl : List Int} {s : Int} (h : netOk J n fl = true) (h2 : inR s 1 (J - 1) = false) : ncC J n fl s = 2 := by simp [ncC, h, h2]
theorem nc_3 {J : Int} {n : Nat} {fl : List Int} {s : Int} (h : netOk J n fl = true) (h2 : inR s 1 (J - 1) = true) : ncC J n fl s = 0 := by simp [ncC, h, h2]
def ifC (J : Int) (n : Nat) (fl fs : List Int) (s : Int) : Int := if netOk J n fl then (if inR s 1 (J - 1) && decide (fs.length = n) then 0 else 2) else 1
def ifB (J : Int) (n : Nat) (fl fs : List Int) (s : Int) : Bool := netOk J n fl && (inR s 1 (J - 1) && (decide (fs.length = n) && ldB J n fl fs s))
theorem if_1 {J : Int} {n : Nat} {fl fs : List Int} {s : Int} (h : netOk J n fl = false) : ifB J n fl fs s = false ∧ ifC J n fl fs s = 1 := by simp [ifB, ifC, h]
theorem if_2 {J : Int} {n : Nat} {fl fs : List Int} {s : Int} (h : netOk J n fl = true) (h2 : inR s 1 (J - 1) = false) : ifB J n fl fs s = false ∧ ifC J n fl fs s = 2 := by simp [ifB, ifC, h, h2]
theorem if_3 {J : Int} {n : Nat} {fl fs : List Int} {s : Int} (h : netOk J n fl = true) (h2 : inR s 1 (J - 1) = true) (h3 : ¬ fs.length = n) : ifB J n fl fs s = false ∧ ifC J n fl fs s = 2 := by simp [ifB, ifC, h, h2, h3]
theorem if_4 {J : Int} {n : Nat} {fl fs : List Int} {s : Int} (h : netOk J n fl = true) (h2 : inR s 1 (J - 1) = true) (h3 : fs.length = n) : ifB J n fl fs s = ldB J n fl fs s ∧ ifC J n fl fs s = 0 := by simp [ifB, ifC, h, h2, h3]
def fpC (J : Int) (n : Nat) (fl fs side : List Int) (s : Int) : Int := if netOk J n fl then (if inR s 1 (J - 1) && (decide (fs.length = n) && risesB side 0 (J - 1)) then 0 else 2) else 1
def fpB (J : Int) (n : Nat) (fl fs side : List Int) (s : Int) : Bool := netOk J n fl && (inR s 1 (J - 1) && (decide (fs.length = n) && (risesB side 0 (J - 1) && (ldB J n fl fs s && (hasB side s && (!(hasB side 0) && (outTo fl fs s n == cutTo fl side n)))))))
theorem fp_1 {J : Int} {n : Nat} {fl fs side : List Int} {s : Int} (h : netOk J n fl = false) : fpB J n fl fs side s = false ∧ fpC J n fl fs side s = 1 := by simp [fpB, fpC, h]
theorem fp_2 {J : Int} {n : Nat} {fl fs side : List Int} {s : Int} (h : netOk J n fl = true) (h2 : inR s 1 (J - 1) = false) : fpB J n fl fs side s = false ∧ fpC J n fl fs side s = 2 := by simp [fpB, fpC, h, h2]
theorem fp_3 {J : Int} {n : Nat} {fl fs side : List Int} {s : Int} (h : netOk J n fl = true) (h2 : inR s 1 (J - 1) = true) (h3 : ¬ fs.length = n) : fpB J n fl fs side s = false ∧ fpC J n fl fs side s = 2 := by simp [fpB, fpC, h, h2, h3]
theorem fp_4 {J : Int} {n : Nat} {fl fs side : List Int} {s : Int} (h : netOk J n fl = true) (h2 : inR s 1 (J - 1) = true) (h3 : fs.length = n) (h4 : risesB side 0 (J - 1) = false) : fpB J n fl fs side s = false ∧ fpC J n fl fs side s = 2 := by simp [fpB, fpC, h, h2, h3, h4]
theorem fp_5 {J : Int} {n : Nat} {fl fs side : List Int} {s : Int} (h : netOk J n fl = true) (h2 : inR s 1 (J - 1) = true) (h3 : fs.length = n) (h4 : risesB side 0 (J - 1) = true) (h5 : ldB J n fl fs s = false) : fpB J n fl fs side s = false ∧ fpC J n fl fs side s = 0 := by simp [fpB, fpC, h, h2, h3, h4, h5]
theorem fp_6 {J : Int} {n : Nat} {fl fs side : List Int} {s : Int} (h : netOk J n fl = true) (h2 : inR s 1 (J - 1) = true) (h3 : fs.length = n) (h4 : risesB side 0 (J - 1) = true) (h5 : hasB side s = false) : fpB J n fl fs side s = false ∧ fpC J n fl fs side s = 0 := by simp [fpB, fpC, h, h2, h3, h4, h5]
theorem fp_7 {J : Int} {n : Nat} {fl fs side : List Int} {s : Int} (h : netOk J n fl = true) (h2 : inR s 1 (J - 1) = true) (h3 : fs.length = n) (h4 : risesB side 0 (J - 1) = true) (h5 : hasB side 0 = true) : fpB J n fl fs side s = false ∧ fpC J n fl fs side s = 0 := by simp [fpB, fpC, h, h2, h3, h4, h5]
theorem fp_8 {J : Int} {n : Nat} {fl fs side : List Int} {s : Int} (h : netOk J n fl = true) (h2 : inR s 1 (J - 1) = true) (h3 : fs.length = n) (h4 : risesB side 0 (J - 1) = true) (h5 : ldB J n fl fs s = true) (h6 : hasB side s = true) (h7 : hasB side 0 = false) : fpB J n fl fs side s = (outTo fl fs s n == cutTo fl side n) ∧ fpC J n fl fs side s = 0 := by simp [fpB, fpC, h, h2, h3, h4, h5, h6, h7]
end Go.Proofs.Ytcgnnlgakfndaaa
