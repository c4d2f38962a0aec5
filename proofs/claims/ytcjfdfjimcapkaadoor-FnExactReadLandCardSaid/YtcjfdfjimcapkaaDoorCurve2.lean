/-
  Contracts on curves, the second part: copies, comparisons, marks, validity. They hold for curves of at most 1048576 numbers a list.
-/
import Derived.Test.YtcjfdfjimcapkaaDoorCurve
namespace Go.Proofs.YtcjfdfjimcapkaaDoor
set_option linter.unusedVariables false
open Go.RowKit
/-- a call that makes a new curve; with a code -/
def NewCurve (ls vs : List Int) (w : World) (e : Ending) (w' : World) : Prop :=
  ∃ A k A' k' M, e = .returned (.agg #[.slice A ls.length k, .slice A' vs.length k']) ∧ w.heap.size ≤ M ∧ M ≤ w'.heap.size ∧ OwnC w.heap.size M w' A (ints ls) ∧ OwnC M w'.heap.size w' A' (ints vs) ∧ Below w.heap.size w w'
def NewCurveC (ls vs : List Int) (code : Int) (w : World) (e : Ending) (w' : World) : Prop :=
  ∃ A k A' k' M, e = .returned (.tuple #[.agg #[.slice A ls.length k, .slice A' vs.length k'], .int .i64 code]) ∧ w.heap.size ≤ M ∧ M ≤ w'.heap.size ∧ OwnC w.heap.size M w' A (ints ls) ∧ OwnC M w'.heap.size w' A' (ints vs) ∧ Below w.heap.size w w'
theorem frz {w : World} {g : Nat} {cs : Array Value} {t : TypeId} (h : w.heap[g]? = some (.cells cs t (0, 0))) : w.frozen? ⟨g, 0, none⟩ = false ∧ w.frozen? ⟨g, 1, none⟩ = false := ⟨frozen_of_row w g 0 _ _ h, frozen_of_row w g 1 _ _ h⟩

set_option maxHeartbeats 800000 in
theorem eqCurve_any (w : World) (A Ap C Cp : Option Addr) (k kp l lp : Nat) (ls vs : List Int) (hA : RC w A (ints ls)) (hAp : RC w Ap (ints vs)) (hC : RC w C (ints ls)) (hCp : RC w Cp (ints vs)) (hm : ls.length ≤ 1048576) (hm' : vs.length ≤ 1048576) :
    Calls Tryd.prog 8 #[.agg #[.slice A ls.length k, .slice Ap vs.length kp], .agg #[.slice C ls.length l, .slice Cp vs.length lp]] w fun e w' => e = .returned (.bool true) ∧ Below w.heap.size w w' := by
  have HA := Lib.hid hA
  have HB := Lib.hid hAp
  have HC := Lib.hid hC
  have HD := Lib.hid hCp
  clear hA hAp hC hCp
  go_enter Tryd.func8, Tryd.ntmps8
  go_wp2_with fail
  refine (eqInts _ _ _ _ _ _ (HA.out.below (by repeat (first | exact Below.refl _ _ | assumption | apply bl_alloc | apply bl_drewN | apply Below.drew | (refine bl_set ?_ (by first | exact Nat.le_refl _ | (simp; done) | (simp; omega)) _) | (refine bl_trans ?_ (by assumption))))) (HC.out.below (by repeat (first | exact Below.refl _ _ | assumption | apply bl_alloc | apply bl_drewN | apply Below.drew | (refine bl_set ?_ (by first | exact Nat.le_refl _ | (simp; done) | (simp; omega)) _) | (refine bl_trans ?_ (by assumption))))) hm).mono ?_
  rintro e w' ⟨rfl, d, rfl⟩
  go_wp2_with fail
  refine (eqInts _ _ _ _ _ _ (HB.out.below (by repeat (first | exact Below.refl _ _ | assumption | apply bl_alloc | apply bl_drewN | apply Below.drew | (refine bl_set ?_ (by first | exact Nat.le_refl _ | (simp; done) | (simp; omega)) _) | (refine bl_trans ?_ (by assumption))))) (HD.out.below (by repeat (first | exact Below.refl _ _ | assumption | apply bl_alloc | apply bl_drewN | apply Below.drew | (refine bl_set ?_ (by first | exact Nat.le_refl _ | (simp; done) | (simp; omega)) _) | (refine bl_trans ?_ (by assumption))))) hm').mono ?_
  rintro e w' ⟨rfl, d', rfl⟩
  go_wp2
  go_ret
  exact ⟨rfl, by repeat (first | exact Below.refl _ _ | assumption | apply bl_alloc | apply bl_drewN | apply Below.drew | (refine bl_set ?_ (by first | exact Nat.le_refl _ | (simp; done) | (simp; omega)) _) | (refine bl_trans ?_ (by assumption)))⟩
theorem eqN_yes {a b : Nat} (h : a = b) : ((a : Int) == (b : Int)) = true := by subst h; simp
theorem eqN_no {a b : Nat} (h : ¬ a = b) : ((a : Int) == (b : Int)) = false := beqI_no (by omega)
theorem neN_yes {a b : Nat} (h : a = b) : ((a : Int) != (b : Int)) = false := bneI_no (by omega)
theorem neN_no {a b : Nat} (h : ¬ a = b) : ((a : Int) != (b : Int)) = true := bneI_yes (by omega)
set_option maxHeartbeats 1600000 in
theorem implValidCurve (w : World) (A A' : Option Addr) (k k' : Nat) (ls vs : List Int) (hA : RC w A (ints ls)) (hA' : RC w A' (ints vs)) (hm : ls.length ≤ 1048576) (hm' : vs.length ≤ 1048576) : Calls Tryd.prog 25 #[.agg #[.slice A ls.length k, .slice A' vs.length k']] w fun e w' => e = .returned (.bool (curveOk ls vs)) ∧ Below w.heap.size w w' := by
  have HA := Lib.hid hA
  have HB := Lib.hid hA'
  clear hA hA'
  cases k1 : inR (ls.length : Int) 2 12
  · skip
    have H := Lib.hid (curve_no1 (vs := vs) k1)
    go_enter Tryd.func25, Tryd.ntmps25
    go_wp2_with (first | (go_at_call 49; refine (in_any _ _ _ _).mono ?_; rintro e w' ⟨rfl, rfl⟩) | (go_at_call 50; (with_reducible refine (rises_any _ _ _ ls (-2000) 2000 (HA.out.below (by repeat (first | exact Below.refl _ _ | assumption | apply bl_alloc | apply bl_drewN | apply Below.drew | (refine bl_set ?_ (by first | exact Nat.le_refl _ | (simp; done) | (simp; omega)) _) | (refine bl_trans ?_ (by assumption))))) hm).mono ?_); rintro e w' ⟨rfl, dd, rfl⟩) | (go_at_call 50; (with_reducible refine (rises_any _ _ _ vs 0 1000000000 (HB.out.below (by repeat (first | exact Below.refl _ _ | assumption | apply bl_alloc | apply bl_drewN | apply Below.drew | (refine bl_set ?_ (by first | exact Nat.le_refl _ | (simp; done) | (simp; omega)) _) | (refine bl_trans ?_ (by assumption))))) hm').mono ?_); rintro e w' ⟨rfl, dd, rfl⟩))
    go_ret
    exact ⟨ret_bool H.out.symm, by repeat (first | exact Below.refl _ _ | assumption | apply bl_alloc | apply bl_drewN | apply Below.drew | (refine bl_set ?_ (by first | exact Nat.le_refl _ | (simp; done) | (simp; omega)) _) | (refine bl_trans ?_ (by assumption)))⟩
  · by_cases k2 : vs.length = ls.length
    · have K2 := Lib.hid k2
      have hb := eqN_yes K2.out
      clear k2
      cases k3 : risesB ls (-2000) 2000
      · skip
        have H := Lib.hid (curve_no3 (vs := vs) k3)
        go_enter Tryd.func25, Tryd.ntmps25
        go_wp2_with (first | (go_at_call 49; refine (in_any _ _ _ _).mono ?_; rintro e w' ⟨rfl, rfl⟩) | (go_at_call 50; (with_reducible refine (rises_any _ _ _ ls (-2000) 2000 (HA.out.below (by repeat (first | exact Below.refl _ _ | assumption | apply bl_alloc | apply bl_drewN | apply Below.drew | (refine bl_set ?_ (by first | exact Nat.le_refl _ | (simp; done) | (simp; omega)) _) | (refine bl_trans ?_ (by assumption))))) hm).mono ?_); rintro e w' ⟨rfl, dd, rfl⟩) | (go_at_call 50; (with_reducible refine (rises_any _ _ _ vs 0 1000000000 (HB.out.below (by repeat (first | exact Below.refl _ _ | assumption | apply bl_alloc | apply bl_drewN | apply Below.drew | (refine bl_set ?_ (by first | exact Nat.le_refl _ | (simp; done) | (simp; omega)) _) | (refine bl_trans ?_ (by assumption))))) hm').mono ?_); rintro e w' ⟨rfl, dd, rfl⟩))
        go_ret
        exact ⟨ret_bool H.out.symm, by repeat (first | exact Below.refl _ _ | assumption | apply bl_alloc | apply bl_drewN | apply Below.drew | (refine bl_set ?_ (by first | exact Nat.le_refl _ | (simp; done) | (simp; omega)) _) | (refine bl_trans ?_ (by assumption)))⟩
      · cases k4 : risesB vs 0 1000000000
        · skip
          have H := Lib.hid (curve_no4 (ls := ls) k4)
          go_enter Tryd.func25, Tryd.ntmps25
          go_wp2_with (first | (go_at_call 49; refine (in_any _ _ _ _).mono ?_; rintro e w' ⟨rfl, rfl⟩) | (go_at_call 50; (with_reducible refine (rises_any _ _ _ ls (-2000) 2000 (HA.out.below (by repeat (first | exact Below.refl _ _ | assumption | apply bl_alloc | apply bl_drewN | apply Below.drew | (refine bl_set ?_ (by first | exact Nat.le_refl _ | (simp; done) | (simp; omega)) _) | (refine bl_trans ?_ (by assumption))))) hm).mono ?_); rintro e w' ⟨rfl, dd, rfl⟩) | (go_at_call 50; (with_reducible refine (rises_any _ _ _ vs 0 1000000000 (HB.out.below (by repeat (first | exact Below.refl _ _ | assumption | apply bl_alloc | apply bl_drewN | apply Below.drew | (refine bl_set ?_ (by first | exact Nat.le_refl _ | (simp; done) | (simp; omega)) _) | (refine bl_trans ?_ (by assumption))))) hm').mono ?_); rintro e w' ⟨rfl, dd, rfl⟩))
          go_ret
          exact ⟨ret_bool H.out.symm, by repeat (first | exact Below.refl _ _ | assumption | apply bl_alloc | apply bl_drewN | apply Below.drew | (refine bl_set ?_ (by first | exact Nat.le_refl _ | (simp; done) | (simp; omega)) _) | (refine bl_trans ?_ (by assumption)))⟩
        · have H := Lib.hid (curve_last k1 K2.out k3 k4)
          have i1 := inR_of k1
          have hlen : vs.length = ls.length := K2.out
          have hv1 : 1 ≤ vs.length := by omega
          have hvI : (0 : Int) < (vs.length : Int) := by omega
          clear hlen
          obtain ⟨b, off, rfl, hbl, hcell⟩ := HB.out (by rw [ints_len]; omega)
          have h1 := hcell 0 (by rw [ints_len]; omega)
          rw [ints_get vs 0 (by omega), Nat.add_zero] at h1
          have hr := Lib.hid (RC.nil w none)
          clear hcell hr
          go_enter Tryd.func25, Tryd.ntmps25
          go_wp2_with (first | (go_at_call 49; refine (in_any _ _ _ _).mono ?_; rintro e w' ⟨rfl, rfl⟩) | (go_at_call 50; (with_reducible refine (rises_any _ _ _ ls (-2000) 2000 (HA.out.below (by repeat (first | exact Below.refl _ _ | assumption | apply bl_alloc | apply bl_drewN | apply Below.drew | (refine bl_set ?_ (by first | exact Nat.le_refl _ | (simp; done) | (simp; omega)) _) | (refine bl_trans ?_ (by assumption))))) hm).mono ?_); rintro e w' ⟨rfl, dd, rfl⟩) | (go_at_call 50; (with_reducible refine (rises_any _ _ _ vs 0 1000000000 (HB.out.below (by repeat (first | exact Below.refl _ _ | assumption | apply bl_alloc | apply bl_drewN | apply Below.drew | (refine bl_set ?_ (by first | exact Nat.le_refl _ | (simp; done) | (simp; omega)) _) | (refine bl_trans ?_ (by assumption))))) hm').mono ?_); rintro e w' ⟨rfl, dd, rfl⟩))
          go_ret
          exact ⟨ret_bool H.out.symm, by repeat (first | exact Below.refl _ _ | assumption | apply bl_alloc | apply bl_drewN | apply Below.drew | (refine bl_set ?_ (by first | exact Nat.le_refl _ | (simp; done) | (simp; omega)) _) | (refine bl_trans ?_ (by assumption)))⟩
    · have H := Lib.hid (curve_no2 k2)
      have hb := eqN_no k2
      clear k2
      go_enter Tryd.func25, Tryd.ntmps25
      go_wp2_with (first | (go_at_call 49; refine (in_any _ _ _ _).mono ?_; rintro e w' ⟨rfl, rfl⟩) | (go_at_call 50; (with_reducible refine (rises_any _ _ _ ls (-2000) 2000 (HA.out.below (by repeat (first | exact Below.refl _ _ | assumption | apply bl_alloc | apply bl_drewN | apply Below.drew | (refine bl_set ?_ (by first | exact Nat.le_refl _ | (simp; done) | (simp; omega)) _) | (refine bl_trans ?_ (by assumption))))) hm).mono ?_); rintro e w' ⟨rfl, dd, rfl⟩) | (go_at_call 50; (with_reducible refine (rises_any _ _ _ vs 0 1000000000 (HB.out.below (by repeat (first | exact Below.refl _ _ | assumption | apply bl_alloc | apply bl_drewN | apply Below.drew | (refine bl_set ?_ (by first | exact Nat.le_refl _ | (simp; done) | (simp; omega)) _) | (refine bl_trans ?_ (by assumption))))) hm').mono ?_); rintro e w' ⟨rfl, dd, rfl⟩))
      go_ret
      exact ⟨ret_bool H.out.symm, by repeat (first | exact Below.refl _ _ | assumption | apply bl_alloc | apply bl_drewN | apply Below.drew | (refine bl_set ?_ (by first | exact Nat.le_refl _ | (simp; done) | (simp; omega)) _) | (refine bl_trans ?_ (by assumption)))⟩
set_option maxHeartbeats 1600000 in
theorem l05Ok_any (w : World) (p : Nat) (A A' : Option Addr) (k k' : Nat) (ls vs : List Int) (hp0 : w.cell? ⟨p, 0, none⟩ = some (.slice A ls.length k)) (hp1 : w.cell? ⟨p, 1, none⟩ = some (.slice A' vs.length k')) (hA : RC w A (ints ls)) (hA' : RC w A' (ints vs)) (hm : ls.length ≤ 1048576) (hm' : vs.length ≤ 1048576) : Calls Tryd.prog 23 #[.pointer (some ⟨p, 0, none⟩)] w
    fun e w' => e = .returned (.bool (curveOk ls vs)) ∧ Below w.heap.size w w' := by
  have HA := Lib.hid hA
  have HB := Lib.hid hA'
  clear hA hA'
  cases k1 : inR (ls.length : Int) 2 12
  · skip
    have H := Lib.hid (curve_no1 (vs := vs) k1)
    go_enter Tryd.func23, Tryd.ntmps23
    go_wp2_with (first | (go_at_call 44; refine (l00In_any _ _ _ _).mono ?_; rintro e w' ⟨rfl, rfl⟩) | (go_at_call 45; (with_reducible refine (l00Rises_any _ _ _ ls (-2000) 2000 (HA.out.below (by repeat (first | exact Below.refl _ _ | assumption | apply bl_alloc | apply bl_drewN | apply Below.drew | (refine bl_set ?_ (by first | exact Nat.le_refl _ | (simp; done) | (simp; omega)) _) | (refine bl_trans ?_ (by assumption))))) hm).mono ?_); rintro e w' ⟨rfl, dd, rfl⟩) | (go_at_call 45; (with_reducible refine (l00Rises_any _ _ _ vs 0 1000000000 (HB.out.below (by repeat (first | exact Below.refl _ _ | assumption | apply bl_alloc | apply bl_drewN | apply Below.drew | (refine bl_set ?_ (by first | exact Nat.le_refl _ | (simp; done) | (simp; omega)) _) | (refine bl_trans ?_ (by assumption))))) hm').mono ?_); rintro e w' ⟨rfl, dd, rfl⟩))
    go_ret
    exact ⟨ret_bool H.out.symm, by repeat (first | exact Below.refl _ _ | assumption | apply bl_alloc | apply bl_drewN | apply Below.drew | (refine bl_set ?_ (by first | exact Nat.le_refl _ | (simp; done) | (simp; omega)) _) | (refine bl_trans ?_ (by assumption)))⟩
  · by_cases k2 : vs.length = ls.length
    · have K2 := Lib.hid k2
      have hb := neN_yes K2.out
      clear k2
      cases k3 : risesB ls (-2000) 2000
      · skip
        have H := Lib.hid (curve_no3 (vs := vs) k3)
        go_enter Tryd.func23, Tryd.ntmps23
        go_wp2_with (first | (go_at_call 44; refine (l00In_any _ _ _ _).mono ?_; rintro e w' ⟨rfl, rfl⟩) | (go_at_call 45; (with_reducible refine (l00Rises_any _ _ _ ls (-2000) 2000 (HA.out.below (by repeat (first | exact Below.refl _ _ | assumption | apply bl_alloc | apply bl_drewN | apply Below.drew | (refine bl_set ?_ (by first | exact Nat.le_refl _ | (simp; done) | (simp; omega)) _) | (refine bl_trans ?_ (by assumption))))) hm).mono ?_); rintro e w' ⟨rfl, dd, rfl⟩) | (go_at_call 45; (with_reducible refine (l00Rises_any _ _ _ vs 0 1000000000 (HB.out.below (by repeat (first | exact Below.refl _ _ | assumption | apply bl_alloc | apply bl_drewN | apply Below.drew | (refine bl_set ?_ (by first | exact Nat.le_refl _ | (simp; done) | (simp; omega)) _) | (refine bl_trans ?_ (by assumption))))) hm').mono ?_); rintro e w' ⟨rfl, dd, rfl⟩))
        go_ret
        exact ⟨ret_bool H.out.symm, by repeat (first | exact Below.refl _ _ | assumption | apply bl_alloc | apply bl_drewN | apply Below.drew | (refine bl_set ?_ (by first | exact Nat.le_refl _ | (simp; done) | (simp; omega)) _) | (refine bl_trans ?_ (by assumption)))⟩
      · cases k4 : risesB vs 0 1000000000
        · skip
          have H := Lib.hid (curve_no4 (ls := ls) k4)
          go_enter Tryd.func23, Tryd.ntmps23
          go_wp2_with (first | (go_at_call 44; refine (l00In_any _ _ _ _).mono ?_; rintro e w' ⟨rfl, rfl⟩) | (go_at_call 45; (with_reducible refine (l00Rises_any _ _ _ ls (-2000) 2000 (HA.out.below (by repeat (first | exact Below.refl _ _ | assumption | apply bl_alloc | apply bl_drewN | apply Below.drew | (refine bl_set ?_ (by first | exact Nat.le_refl _ | (simp; done) | (simp; omega)) _) | (refine bl_trans ?_ (by assumption))))) hm).mono ?_); rintro e w' ⟨rfl, dd, rfl⟩) | (go_at_call 45; (with_reducible refine (l00Rises_any _ _ _ vs 0 1000000000 (HB.out.below (by repeat (first | exact Below.refl _ _ | assumption | apply bl_alloc | apply bl_drewN | apply Below.drew | (refine bl_set ?_ (by first | exact Nat.le_refl _ | (simp; done) | (simp; omega)) _) | (refine bl_trans ?_ (by assumption))))) hm').mono ?_); rintro e w' ⟨rfl, dd, rfl⟩))
          go_ret
          exact ⟨ret_bool H.out.symm, by repeat (first | exact Below.refl _ _ | assumption | apply bl_alloc | apply bl_drewN | apply Below.drew | (refine bl_set ?_ (by first | exact Nat.le_refl _ | (simp; done) | (simp; omega)) _) | (refine bl_trans ?_ (by assumption)))⟩
        · have H := Lib.hid (curve_last k1 K2.out k3 k4)
          have i1 := inR_of k1
          have hlen : vs.length = ls.length := K2.out
          have hv1 : 1 ≤ vs.length := by omega
          have hvI : (0 : Int) < (vs.length : Int) := by omega
          clear hlen
          obtain ⟨b, off, rfl, hbl, hcell⟩ := HB.out (by rw [ints_len]; omega)
          have h1 := hcell 0 (by rw [ints_len]; omega)
          rw [ints_get vs 0 (by omega), Nat.add_zero] at h1
          have hr := Lib.hid (RC.nil w none)
          clear hcell hr
          go_enter Tryd.func23, Tryd.ntmps23
          go_wp2_with (first | (go_at_call 44; refine (l00In_any _ _ _ _).mono ?_; rintro e w' ⟨rfl, rfl⟩) | (go_at_call 45; (with_reducible refine (l00Rises_any _ _ _ ls (-2000) 2000 (HA.out.below (by repeat (first | exact Below.refl _ _ | assumption | apply bl_alloc | apply bl_drewN | apply Below.drew | (refine bl_set ?_ (by first | exact Nat.le_refl _ | (simp; done) | (simp; omega)) _) | (refine bl_trans ?_ (by assumption))))) hm).mono ?_); rintro e w' ⟨rfl, dd, rfl⟩) | (go_at_call 45; (with_reducible refine (l00Rises_any _ _ _ vs 0 1000000000 (HB.out.below (by repeat (first | exact Below.refl _ _ | assumption | apply bl_alloc | apply bl_drewN | apply Below.drew | (refine bl_set ?_ (by first | exact Nat.le_refl _ | (simp; done) | (simp; omega)) _) | (refine bl_trans ?_ (by assumption))))) hm').mono ?_); rintro e w' ⟨rfl, dd, rfl⟩))
          go_ret
          exact ⟨ret_bool H.out.symm, by repeat (first | exact Below.refl _ _ | assumption | apply bl_alloc | apply bl_drewN | apply Below.drew | (refine bl_set ?_ (by first | exact Nat.le_refl _ | (simp; done) | (simp; omega)) _) | (refine bl_trans ?_ (by assumption)))⟩
    · have H := Lib.hid (curve_no2 k2)
      have hb := neN_no k2
      clear k2
      go_enter Tryd.func23, Tryd.ntmps23
      go_wp2_with (first | (go_at_call 44; refine (l00In_any _ _ _ _).mono ?_; rintro e w' ⟨rfl, rfl⟩) | (go_at_call 45; (with_reducible refine (l00Rises_any _ _ _ ls (-2000) 2000 (HA.out.below (by repeat (first | exact Below.refl _ _ | assumption | apply bl_alloc | apply bl_drewN | apply Below.drew | (refine bl_set ?_ (by first | exact Nat.le_refl _ | (simp; done) | (simp; omega)) _) | (refine bl_trans ?_ (by assumption))))) hm).mono ?_); rintro e w' ⟨rfl, dd, rfl⟩) | (go_at_call 45; (with_reducible refine (l00Rises_any _ _ _ vs 0 1000000000 (HB.out.below (by repeat (first | exact Below.refl _ _ | assumption | apply bl_alloc | apply bl_drewN | apply Below.drew | (refine bl_set ?_ (by first | exact Nat.le_refl _ | (simp; done) | (simp; omega)) _) | (refine bl_trans ?_ (by assumption))))) hm').mono ?_); rintro e w' ⟨rfl, dd, rfl⟩))
      go_ret
      exact ⟨ret_bool H.out.symm, by repeat (first | exact Below.refl _ _ | assumption | apply bl_alloc | apply bl_drewN | apply Below.drew | (refine bl_set ?_ (by first | exact Nat.le_refl _ | (simp; done) | (simp; omega)) _) | (refine bl_trans ?_ (by assumption)))⟩
end Go.Proofs.YtcjfdfjimcapkaaDoor
