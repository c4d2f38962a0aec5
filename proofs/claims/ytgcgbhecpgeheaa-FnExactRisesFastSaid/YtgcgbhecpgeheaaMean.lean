/-
  Contracts of the mean of levels: the program's function and the reference's. They hold for every list of at most 1048576 numbers.
-/
import Derived.Test.YtgcgbhecpgeheaaFrac
namespace Go.Proofs.Ytgcgbhecpgeheaa
open Go.RowKit

theorem l02Some_any (w : World) (A : Option Addr) (c : Nat) (zs : List Int) (hA : RC w A (ints zs)) (hm : zs.length ≤ 1048576) (r : Int) (hr : (if lvlCode zs = 0 ∧ zs.length = 0 then (3 : Int) else lvlCode zs) = r) :
    Calls Try.prog 72 #[.slice A zs.length c] w fun e w' => e = .returned (.int .i64 r) ∧ w = w' := by
  have HA := Lib.hid hA
  have HR := Lib.hid hr
  clear hA hr
  cases hv : gaugesOk zs
  · have hc := lvlCode_false hv
    have hne : ((2 : Int) == 0) = false := rfl
    go_enter Try.func72, Try.ntmps72
    go_wp2_with ((go_at_call 65; refine (l02List_any _ _ _ _ HA.out hm).mono ?_; rintro e w' ⟨rfl, rfl⟩))
    go_ret
    exact ⟨ret_int (by rw [← HR.out, hc]; simp), rfl⟩
  · have hc := lvlCode_true hv
    by_cases h0 : zs.length = 0
    · have hq := beq0_yes h0
      have H0 := Lib.hid h0
      clear h0
      go_enter Try.func72, Try.ntmps72
      go_wp2_with ((go_at_call 65; refine (l02List_any _ _ _ _ HA.out hm).mono ?_; rintro e w' ⟨rfl, rfl⟩))
      go_ret
      exact ⟨ret_int (by rw [← HR.out, hc, if_pos ⟨rfl, H0.out⟩]), rfl⟩
    · have hq := beq0_no h0
      have H0 := Lib.hid h0
      clear h0
      go_enter Try.func72, Try.ntmps72
      go_wp2_with ((go_at_call 65; refine (l02List_any _ _ _ _ HA.out hm).mono ?_; rintro e w' ⟨rfl, rfl⟩))
      go_ret
      exact ⟨ret_int (by rw [← HR.out, hc, if_neg (fun h => H0.out h.2)]), rfl⟩
set_option maxHeartbeats 800000 in
theorem implMean (w : World) (A : Option Addr) (c : Nat) (zs : List Int) (hA : RC w A (ints zs)) (hm : zs.length ≤ 1048576) :
    Calls Try.prog 40 #[.slice A zs.length c] w fun e w' => e = .returned (meanV zs) ∧ Below w.heap.size w w' := by
  have HA := Lib.hid hA
  clear hA
  cases hv : gaugesOk zs
  · have H := Lib.hid (mean_bad hv)
    have HC := Lib.hid (show (if lvlCode zs = 0 ∧ zs.length = 0 then (3 : Int) else lvlCode zs) = 2 by rw [lvlCode_false hv]; simp)
    go_enter Try.func40, Try.ntmps40
    go_wp2_with ((go_at_call 66; refine (areGauges_any _ _ _ _ (HA.out.alloc _) hm).mono ?_; rintro e w' ⟨rfl, rfl⟩))
    exact bodyPost_ret (v := .tuple #[.agg #[.int .i64 0, .int .i64 0], .int .i64 2]) (by simp [results, Try.results40, go_sem]) rfl ⟨mean_ret H.out, by repeat (first | exact Below.refl _ _ | assumption | apply bl_alloc | apply bl_drewN | apply Below.drew | (refine bl_set ?_ (by first | exact Nat.le_refl _ | (simp; done) | (simp; omega)) _) | (refine bl_trans ?_ (by assumption)))⟩
  · by_cases h0 : zs.length = 0
    · have H := Lib.hid (mean_none hv h0)
      have HC := Lib.hid (someCode_none hv h0)
      have hq := beq0_yes h0
      have H0 := Lib.hid h0
      clear h0
      go_enter Try.func40, Try.ntmps40
      go_wp2_with ((go_at_call 66; refine (areGauges_any _ _ _ _ (HA.out.alloc _) hm).mono ?_; rintro e w' ⟨rfl, rfl⟩))
      exact bodyPost_ret (v := .tuple #[.agg #[.int .i64 0, .int .i64 0], .int .i64 3]) (by simp [results, Try.results40, go_sem]) rfl ⟨mean_ret H.out, by repeat (first | exact Below.refl _ _ | assumption | apply bl_alloc | apply bl_drewN | apply Below.drew | (refine bl_set ?_ (by first | exact Nat.le_refl _ | (simp; done) | (simp; omega)) _) | (refine bl_trans ?_ (by assumption)))⟩
    · have H := Lib.hid (mean_ok hv h0)
      have HC := Lib.hid (show (if lvlCode zs = 0 ∧ zs.length = 0 then (3 : Int) else lvlCode zs) = 0 by rw [lvlCode_true hv]; simp [h0])
      have hq := beq0_no h0
      have hz := small_of_gauges hv
      have hpos : 1 ≤ zs.length := by omega
      have hs := sum_levels hv
      have h60 := (gaugesOk_of hv).1
      go_enter Try.func40, Try.ntmps40
      go_wp2_with (first | (go_at_call 66; refine (areGauges_any _ _ _ _ (HA.out.alloc _) hm).mono ?_; rintro e w' ⟨rfl, rfl⟩) | (go_at_call 74; refine (sum_any _ _ _ _ (HA.out.alloc _) hm hz).mono ?_; rintro e w' ⟨rfl, rfl⟩) | (go_at_call 61; refine (fraction_any _ _ (by omega) (by omega) (by omega) (by omega) _).mono ?_; rintro e w1 ⟨rfl, hb⟩; obtain ⟨hc0, hc1, hf0, hf1, hlt⟩ := cells_two (heap_alloc_new _ _) hb) | (go_at_call 55; go_in))
      exact bodyPost_ret (v := .tuple #[.agg #[.int .i64 ((sumTo zs zs.length).tdiv ((gcdN (absN (sumTo zs zs.length)) zs.length : Nat) : Int)), .int .i64 ((zs.length : Int) / ((gcdN (absN (sumTo zs zs.length)) zs.length : Nat) : Int))], .int .i64 0]) (by simp [results, Try.results40, go_sem, hc0, hc1]) rfl ⟨mean_ret H.out, by repeat (first | exact Below.refl _ _ | assumption | apply bl_alloc | apply bl_drewN | apply Below.drew | (refine bl_set ?_ (by first | exact Nat.le_refl _ | (simp; done) | (simp; omega)) _) | (refine bl_trans ?_ (by assumption)))⟩
set_option maxHeartbeats 800000 in
theorem specMean (w : World) (A : Option Addr) (c : Nat) (zs : List Int) (hA : RC w A (ints zs)) (hm : zs.length ≤ 1048576) :
    Calls Try.prog 39 #[.slice A zs.length c] w fun e w' => e = .returned (meanV zs) ∧ Below w.heap.size w w' := by
  have HA := Lib.hid hA
  clear hA
  cases hv : gaugesOk zs
  · have H := Lib.hid (mean_bad hv)
    have HC := Lib.hid (show (if lvlCode zs = 0 ∧ zs.length = 0 then (3 : Int) else lvlCode zs) = 2 by rw [lvlCode_false hv]; simp)
    go_enter Try.func39, Try.ntmps39
    go_wp2_with ((go_at_call 72; refine (l02Some_any _ _ _ _ (HA.out.alloc _) hm 2 HC.out).mono ?_; rintro e w' ⟨rfl, rfl⟩))
    exact bodyPost_ret (v := .tuple #[.agg #[.int .i64 0, .int .i64 0], .int .i64 2]) (by simp [results, Try.results39, go_sem]) rfl ⟨mean_ret H.out, by repeat (first | exact Below.refl _ _ | assumption | apply bl_alloc | apply bl_drewN | apply Below.drew | (refine bl_set ?_ (by first | exact Nat.le_refl _ | (simp; done) | (simp; omega)) _) | (refine bl_trans ?_ (by assumption)))⟩
  · by_cases h0 : zs.length = 0
    · have H := Lib.hid (mean_none hv h0)
      have HC := Lib.hid (someCode_none hv h0)
      have hq := beq0_yes h0
      have H0 := Lib.hid h0
      clear h0
      go_enter Try.func39, Try.ntmps39
      go_wp2_with ((go_at_call 72; refine (l02Some_any _ _ _ _ (HA.out.alloc _) hm 3 HC.out).mono ?_; rintro e w' ⟨rfl, rfl⟩))
      exact bodyPost_ret (v := .tuple #[.agg #[.int .i64 0, .int .i64 0], .int .i64 3]) (by simp [results, Try.results39, go_sem]) rfl ⟨mean_ret H.out, by repeat (first | exact Below.refl _ _ | assumption | apply bl_alloc | apply bl_drewN | apply Below.drew | (refine bl_set ?_ (by first | exact Nat.le_refl _ | (simp; done) | (simp; omega)) _) | (refine bl_trans ?_ (by assumption)))⟩
    · have H := Lib.hid (mean_ok hv h0)
      have HC := Lib.hid (show (if lvlCode zs = 0 ∧ zs.length = 0 then (3 : Int) else lvlCode zs) = 0 by rw [lvlCode_true hv]; simp [h0])
      have hq := beq0_no h0
      have hz := small_of_gauges hv
      have hpos : 1 ≤ zs.length := by omega
      have hs := sum_levels hv
      have h60 := (gaugesOk_of hv).1
      go_enter Try.func39, Try.ntmps39
      go_wp2_with (first | (go_at_call 72; refine (l02Some_any _ _ _ _ (HA.out.alloc _) hm 0 HC.out).mono ?_; rintro e w' ⟨rfl, rfl⟩) | (go_at_call 73; refine (l02Sum_any _ _ _ _ (HA.out.alloc _) hm hz).mono ?_; rintro e w' ⟨rfl, rfl⟩) | (go_at_call 59; refine (l02Make_any _ _ (by omega) (by omega) (by omega) (by omega) _).mono ?_; rintro e w1 ⟨rfl, hb⟩; obtain ⟨hc0, hc1, hf0, hf1, hlt⟩ := cells_two (heap_alloc_new _ _) hb))
      exact bodyPost_ret (v := .tuple #[.agg #[.int .i64 ((sumTo zs zs.length).tdiv ((gcdN (absN (sumTo zs zs.length)) zs.length : Nat) : Int)), .int .i64 ((zs.length : Int) / ((gcdN (absN (sumTo zs zs.length)) zs.length : Nat) : Int))], .int .i64 0]) (by simp [results, Try.results39, go_sem, hc0, hc1]) rfl ⟨mean_ret H.out, by repeat (first | exact Below.refl _ _ | assumption | apply bl_alloc | apply bl_drewN | apply Below.drew | (refine bl_set ?_ (by first | exact Nat.le_refl _ | (simp; done) | (simp; omega)) _) | (refine bl_trans ?_ (by assumption)))⟩
end Go.Proofs.Ytgcgbhecpgeheaa
