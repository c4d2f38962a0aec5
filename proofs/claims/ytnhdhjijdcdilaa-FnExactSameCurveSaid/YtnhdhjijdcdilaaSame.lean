/-
  Contracts: whether two lands, two curves are the same. They hold for lists of at most 1048576 numbers.
-/
import Derived.Test.YtnhdhjijdcdilaaLand
import Derived.Test.YtnhdhjijdcdilaaCurve
namespace Go.Proofs.Ytnhdhjijdcdilaa
open Go.RowKit

def sameL (r c : Int) (hs : List Int) (r' c' : Int) (hs' : List Int) : Bool := (r == r') && ((c == c') && sameB hs hs')
theorem sameL_1 {r c r' c' : Int} {hs hs' : List Int} (h : (r == r') = false) : sameL r c hs r' c' hs' = false := by simp [sameL, h]
theorem sameL_2 {r c r' c' : Int} {hs hs' : List Int} (h : (r == r') = true) (h2 : (c == c') = false) : sameL r c hs r' c' hs' = false := by simp [sameL, h, h2]
theorem sameL_3 {r c r' c' : Int} {hs hs' : List Int} (h : (r == r') = true) (h2 : (c == c') = true) : sameL r c hs r' c' hs' = sameB hs hs' := by simp [sameL, h, h2]
def sameC (ls vs ls' vs' : List Int) : Bool := sameB ls ls' && sameB vs vs'
theorem sameC_1 {ls vs ls' vs' : List Int} (h : sameB ls ls' = false) : sameC ls vs ls' vs' = false := by simp [sameC, h]
theorem sameC_2 {ls vs ls' vs' : List Int} (h : sameB ls ls' = true) : sameC ls vs ls' vs' = sameB vs vs' := by simp [sameC, h]

set_option maxHeartbeats 800000 in
theorem implSameLand (w : World) (r c r' c' : Int) (A A' : Option Addr) (k k' : Nat) (hs hs' : List Int) (hA : RC w A (ints hs)) (hA' : RC w A' (ints hs')) (hm : hs.length ≤ 1048576) (hm' : hs'.length ≤ 1048576) :
    Calls Try.prog 28 #[.agg #[.int .i64 r, .int .i64 c, .slice A hs.length k], .agg #[.int .i64 r', .int .i64 c', .slice A' hs'.length k']] w fun e w' => e = .returned (.bool (sameL r c hs r' c' hs')) ∧ Below w.heap.size w w' := by
  have HA := Lib.hid hA
  have HB := Lib.hid hA'
  clear hA hA'
  cases k0 : (r == r')
  · skip
    have H := Lib.hid (sameL_1 (c := c) (c' := c') (hs := hs) (hs' := hs') k0)
    go_enter Try.func28, Try.ntmps28
    go_wp2_with ((go_at_call 61; refine (same_any _ _ _ _ _ _ _ (HA.out.below (by repeat (first | exact Below.refl _ _ | assumption | apply bl_alloc | apply bl_drewN | apply Below.drew | (refine bl_set ?_ (by first | exact Nat.le_refl _ | (simp; done) | (simp; omega)) _) | (refine bl_trans ?_ (by assumption))))) (HB.out.below (by repeat (first | exact Below.refl _ _ | assumption | apply bl_alloc | apply bl_drewN | apply Below.drew | (refine bl_set ?_ (by first | exact Nat.le_refl _ | (simp; done) | (simp; omega)) _) | (refine bl_trans ?_ (by assumption))))) hm hm').mono ?_; rintro e w' ⟨rfl, dd, rfl⟩))
    go_ret
    exact ⟨ret_bool H.out.symm, by repeat (first | exact Below.refl _ _ | assumption | apply bl_alloc | apply bl_drewN | apply Below.drew | (refine bl_set ?_ (by first | exact Nat.le_refl _ | (simp; done) | (simp; omega)) _) | (refine bl_trans ?_ (by assumption)))⟩
  · cases k1 : (c == c')
    · skip
      have H := Lib.hid (sameL_2 (hs := hs) (hs' := hs') k0 k1)
      go_enter Try.func28, Try.ntmps28
      go_wp2_with ((go_at_call 61; refine (same_any _ _ _ _ _ _ _ (HA.out.below (by repeat (first | exact Below.refl _ _ | assumption | apply bl_alloc | apply bl_drewN | apply Below.drew | (refine bl_set ?_ (by first | exact Nat.le_refl _ | (simp; done) | (simp; omega)) _) | (refine bl_trans ?_ (by assumption))))) (HB.out.below (by repeat (first | exact Below.refl _ _ | assumption | apply bl_alloc | apply bl_drewN | apply Below.drew | (refine bl_set ?_ (by first | exact Nat.le_refl _ | (simp; done) | (simp; omega)) _) | (refine bl_trans ?_ (by assumption))))) hm hm').mono ?_; rintro e w' ⟨rfl, dd, rfl⟩))
      go_ret
      exact ⟨ret_bool H.out.symm, by repeat (first | exact Below.refl _ _ | assumption | apply bl_alloc | apply bl_drewN | apply Below.drew | (refine bl_set ?_ (by first | exact Nat.le_refl _ | (simp; done) | (simp; omega)) _) | (refine bl_trans ?_ (by assumption)))⟩
    · skip
      have H := Lib.hid (sameL_3 (hs := hs) (hs' := hs') k0 k1)
      go_enter Try.func28, Try.ntmps28
      go_wp2_with ((go_at_call 61; refine (same_any _ _ _ _ _ _ _ (HA.out.below (by repeat (first | exact Below.refl _ _ | assumption | apply bl_alloc | apply bl_drewN | apply Below.drew | (refine bl_set ?_ (by first | exact Nat.le_refl _ | (simp; done) | (simp; omega)) _) | (refine bl_trans ?_ (by assumption))))) (HB.out.below (by repeat (first | exact Below.refl _ _ | assumption | apply bl_alloc | apply bl_drewN | apply Below.drew | (refine bl_set ?_ (by first | exact Nat.le_refl _ | (simp; done) | (simp; omega)) _) | (refine bl_trans ?_ (by assumption))))) hm hm').mono ?_; rintro e w' ⟨rfl, dd, rfl⟩))
      go_ret
      exact ⟨ret_bool H.out.symm, by repeat (first | exact Below.refl _ _ | assumption | apply bl_alloc | apply bl_drewN | apply Below.drew | (refine bl_set ?_ (by first | exact Nat.le_refl _ | (simp; done) | (simp; omega)) _) | (refine bl_trans ?_ (by assumption)))⟩
set_option maxHeartbeats 800000 in
theorem specSameLand (w : World) (r c r' c' : Int) (A A' : Option Addr) (k k' : Nat) (hs hs' : List Int) (hA : RC w A (ints hs)) (hA' : RC w A' (ints hs')) (hm : hs.length ≤ 1048576) (hm' : hs'.length ≤ 1048576) :
    Calls Try.prog 26 #[.agg #[.int .i64 r, .int .i64 c, .slice A hs.length k], .agg #[.int .i64 r', .int .i64 c', .slice A' hs'.length k']] w fun e w' => e = .returned (.bool (sameL r c hs r' c' hs')) ∧ Below w.heap.size w w' := by
  have HA := Lib.hid hA
  have HB := Lib.hid hA'
  clear hA hA'
  cases k0 : (r == r')
  · skip
    have H := Lib.hid (sameL_1 (c := c) (c' := c') (hs := hs) (hs' := hs') k0)
    go_enter Try.func26, Try.ntmps26
    go_wp2_with ((go_at_call 60; refine (l00Same_any _ _ _ _ _ _ _ (HA.out.below (by repeat (first | exact Below.refl _ _ | assumption | apply bl_alloc | apply bl_drewN | apply Below.drew | (refine bl_set ?_ (by first | exact Nat.le_refl _ | (simp; done) | (simp; omega)) _) | (refine bl_trans ?_ (by assumption))))) (HB.out.below (by repeat (first | exact Below.refl _ _ | assumption | apply bl_alloc | apply bl_drewN | apply Below.drew | (refine bl_set ?_ (by first | exact Nat.le_refl _ | (simp; done) | (simp; omega)) _) | (refine bl_trans ?_ (by assumption))))) hm hm').mono ?_; rintro e w' ⟨rfl, dd, rfl⟩))
    go_ret
    exact ⟨ret_bool H.out.symm, by repeat (first | exact Below.refl _ _ | assumption | apply bl_alloc | apply bl_drewN | apply Below.drew | (refine bl_set ?_ (by first | exact Nat.le_refl _ | (simp; done) | (simp; omega)) _) | (refine bl_trans ?_ (by assumption)))⟩
  · cases k1 : (c == c')
    · skip
      have H := Lib.hid (sameL_2 (hs := hs) (hs' := hs') k0 k1)
      go_enter Try.func26, Try.ntmps26
      go_wp2_with ((go_at_call 60; refine (l00Same_any _ _ _ _ _ _ _ (HA.out.below (by repeat (first | exact Below.refl _ _ | assumption | apply bl_alloc | apply bl_drewN | apply Below.drew | (refine bl_set ?_ (by first | exact Nat.le_refl _ | (simp; done) | (simp; omega)) _) | (refine bl_trans ?_ (by assumption))))) (HB.out.below (by repeat (first | exact Below.refl _ _ | assumption | apply bl_alloc | apply bl_drewN | apply Below.drew | (refine bl_set ?_ (by first | exact Nat.le_refl _ | (simp; done) | (simp; omega)) _) | (refine bl_trans ?_ (by assumption))))) hm hm').mono ?_; rintro e w' ⟨rfl, dd, rfl⟩))
      go_ret
      exact ⟨ret_bool H.out.symm, by repeat (first | exact Below.refl _ _ | assumption | apply bl_alloc | apply bl_drewN | apply Below.drew | (refine bl_set ?_ (by first | exact Nat.le_refl _ | (simp; done) | (simp; omega)) _) | (refine bl_trans ?_ (by assumption)))⟩
    · skip
      have H := Lib.hid (sameL_3 (hs := hs) (hs' := hs') k0 k1)
      go_enter Try.func26, Try.ntmps26
      go_wp2_with ((go_at_call 60; refine (l00Same_any _ _ _ _ _ _ _ (HA.out.below (by repeat (first | exact Below.refl _ _ | assumption | apply bl_alloc | apply bl_drewN | apply Below.drew | (refine bl_set ?_ (by first | exact Nat.le_refl _ | (simp; done) | (simp; omega)) _) | (refine bl_trans ?_ (by assumption))))) (HB.out.below (by repeat (first | exact Below.refl _ _ | assumption | apply bl_alloc | apply bl_drewN | apply Below.drew | (refine bl_set ?_ (by first | exact Nat.le_refl _ | (simp; done) | (simp; omega)) _) | (refine bl_trans ?_ (by assumption))))) hm hm').mono ?_; rintro e w' ⟨rfl, dd, rfl⟩))
      go_ret
      exact ⟨ret_bool H.out.symm, by repeat (first | exact Below.refl _ _ | assumption | apply bl_alloc | apply bl_drewN | apply Below.drew | (refine bl_set ?_ (by first | exact Nat.le_refl _ | (simp; done) | (simp; omega)) _) | (refine bl_trans ?_ (by assumption)))⟩
set_option maxHeartbeats 800000 in
theorem implSameCurve (w : World) (A B C D : Option Addr) (k k2 k3 k4 : Nat) (ls vs ms us : List Int) (hA : RC w A (ints ls)) (hB : RC w B (ints vs)) (hC : RC w C (ints ms)) (hD : RC w D (ints us)) (hm : ls.length ≤ 1048576) (hm2 : vs.length ≤ 1048576) (hm3 : ms.length ≤ 1048576) (hm4 : us.length ≤ 1048576) :
    Calls Try.prog 23 #[.agg #[.slice A ls.length k, .slice B vs.length k2], .agg #[.slice C ms.length k3, .slice D us.length k4]] w fun e w' => e = .returned (.bool (sameC ls vs ms us)) ∧ Below w.heap.size w w' := by
  have HA := Lib.hid hA
  have HB := Lib.hid hB
  have HC := Lib.hid hC
  have HD := Lib.hid hD
  clear hA hB hC hD
  cases k0 : sameB ls ms
  · skip
    have H := Lib.hid (sameC_1 (vs := vs) (vs' := us) k0)
    go_enter Try.func23, Try.ntmps23
    go_wp2_with fail
    refine (same_any _ _ _ _ _ _ _ (HA.out.below (by repeat (first | exact Below.refl _ _ | assumption | apply bl_alloc | apply bl_drewN | apply Below.drew | (refine bl_set ?_ (by first | exact Nat.le_refl _ | (simp; done) | (simp; omega)) _) | (refine bl_trans ?_ (by assumption))))) (HC.out.below (by repeat (first | exact Below.refl _ _ | assumption | apply bl_alloc | apply bl_drewN | apply Below.drew | (refine bl_set ?_ (by first | exact Nat.le_refl _ | (simp; done) | (simp; omega)) _) | (refine bl_trans ?_ (by assumption))))) hm hm3).mono ?_
    rintro e w' ⟨rfl, dd, rfl⟩
    go_wp2
    go_ret
    exact ⟨ret_bool H.out.symm, by repeat (first | exact Below.refl _ _ | assumption | apply bl_alloc | apply bl_drewN | apply Below.drew | (refine bl_set ?_ (by first | exact Nat.le_refl _ | (simp; done) | (simp; omega)) _) | (refine bl_trans ?_ (by assumption)))⟩
  · skip
    have H := Lib.hid (sameC_2 (vs := vs) (vs' := us) k0)
    go_enter Try.func23, Try.ntmps23
    go_wp2_with fail
    refine (same_any _ _ _ _ _ _ _ (HA.out.below (by repeat (first | exact Below.refl _ _ | assumption | apply bl_alloc | apply bl_drewN | apply Below.drew | (refine bl_set ?_ (by first | exact Nat.le_refl _ | (simp; done) | (simp; omega)) _) | (refine bl_trans ?_ (by assumption))))) (HC.out.below (by repeat (first | exact Below.refl _ _ | assumption | apply bl_alloc | apply bl_drewN | apply Below.drew | (refine bl_set ?_ (by first | exact Nat.le_refl _ | (simp; done) | (simp; omega)) _) | (refine bl_trans ?_ (by assumption))))) hm hm3).mono ?_
    rintro e w' ⟨rfl, dd, rfl⟩
    go_wp2_with fail
    refine (same_any _ _ _ _ _ _ _ (HB.out.below (by repeat (first | exact Below.refl _ _ | assumption | apply bl_alloc | apply bl_drewN | apply Below.drew | (refine bl_set ?_ (by first | exact Nat.le_refl _ | (simp; done) | (simp; omega)) _) | (refine bl_trans ?_ (by assumption))))) (HD.out.below (by repeat (first | exact Below.refl _ _ | assumption | apply bl_alloc | apply bl_drewN | apply Below.drew | (refine bl_set ?_ (by first | exact Nat.le_refl _ | (simp; done) | (simp; omega)) _) | (refine bl_trans ?_ (by assumption))))) hm2 hm4).mono ?_
    rintro e w' ⟨rfl, dd2, rfl⟩
    go_wp2
    go_ret
    exact ⟨ret_bool H.out.symm, by repeat (first | exact Below.refl _ _ | assumption | apply bl_alloc | apply bl_drewN | apply Below.drew | (refine bl_set ?_ (by first | exact Nat.le_refl _ | (simp; done) | (simp; omega)) _) | (refine bl_trans ?_ (by assumption)))⟩
set_option maxHeartbeats 800000 in
theorem specSameCurve (w : World) (A B C D : Option Addr) (k k2 k3 k4 : Nat) (ls vs ms us : List Int) (hA : RC w A (ints ls)) (hB : RC w B (ints vs)) (hC : RC w C (ints ms)) (hD : RC w D (ints us)) (hm : ls.length ≤ 1048576) (hm2 : vs.length ≤ 1048576) (hm3 : ms.length ≤ 1048576) (hm4 : us.length ≤ 1048576) :
    Calls Try.prog 21 #[.agg #[.slice A ls.length k, .slice B vs.length k2], .agg #[.slice C ms.length k3, .slice D us.length k4]] w fun e w' => e = .returned (.bool (sameC ls vs ms us)) ∧ Below w.heap.size w w' := by
  have HA := Lib.hid hA
  have HB := Lib.hid hB
  have HC := Lib.hid hC
  have HD := Lib.hid hD
  clear hA hB hC hD
  cases k0 : sameB ls ms
  · skip
    have H := Lib.hid (sameC_1 (vs := vs) (vs' := us) k0)
    go_enter Try.func21, Try.ntmps21
    go_wp2_with fail
    refine (l00Same_any _ _ _ _ _ _ _ (HA.out.below (by repeat (first | exact Below.refl _ _ | assumption | apply bl_alloc | apply bl_drewN | apply Below.drew | (refine bl_set ?_ (by first | exact Nat.le_refl _ | (simp; done) | (simp; omega)) _) | (refine bl_trans ?_ (by assumption))))) (HC.out.below (by repeat (first | exact Below.refl _ _ | assumption | apply bl_alloc | apply bl_drewN | apply Below.drew | (refine bl_set ?_ (by first | exact Nat.le_refl _ | (simp; done) | (simp; omega)) _) | (refine bl_trans ?_ (by assumption))))) hm hm3).mono ?_
    rintro e w' ⟨rfl, dd, rfl⟩
    go_wp2
    go_ret
    exact ⟨ret_bool H.out.symm, by repeat (first | exact Below.refl _ _ | assumption | apply bl_alloc | apply bl_drewN | apply Below.drew | (refine bl_set ?_ (by first | exact Nat.le_refl _ | (simp; done) | (simp; omega)) _) | (refine bl_trans ?_ (by assumption)))⟩
  · skip
    have H := Lib.hid (sameC_2 (vs := vs) (vs' := us) k0)
    go_enter Try.func21, Try.ntmps21
    go_wp2_with fail
    refine (l00Same_any _ _ _ _ _ _ _ (HA.out.below (by repeat (first | exact Below.refl _ _ | assumption | apply bl_alloc | apply bl_drewN | apply Below.drew | (refine bl_set ?_ (by first | exact Nat.le_refl _ | (simp; done) | (simp; omega)) _) | (refine bl_trans ?_ (by assumption))))) (HC.out.below (by repeat (first | exact Below.refl _ _ | assumption | apply bl_alloc | apply bl_drewN | apply Below.drew | (refine bl_set ?_ (by first | exact Nat.le_refl _ | (simp; done) | (simp; omega)) _) | (refine bl_trans ?_ (by assumption))))) hm hm3).mono ?_
    rintro e w' ⟨rfl, dd, rfl⟩
    go_wp2_with fail
    refine (l00Same_any _ _ _ _ _ _ _ (HB.out.below (by repeat (first | exact Below.refl _ _ | assumption | apply bl_alloc | apply bl_drewN | apply Below.drew | (refine bl_set ?_ (by first | exact Nat.le_refl _ | (simp; done) | (simp; omega)) _) | (refine bl_trans ?_ (by assumption))))) (HD.out.below (by repeat (first | exact Below.refl _ _ | assumption | apply bl_alloc | apply bl_drewN | apply Below.drew | (refine bl_set ?_ (by first | exact Nat.le_refl _ | (simp; done) | (simp; omega)) _) | (refine bl_trans ?_ (by assumption))))) hm2 hm4).mono ?_
    rintro e w' ⟨rfl, dd2, rfl⟩
    go_wp2
    go_ret
    exact ⟨ret_bool H.out.symm, by repeat (first | exact Below.refl _ _ | assumption | apply bl_alloc | apply bl_drewN | apply Below.drew | (refine bl_set ?_ (by first | exact Nat.le_refl _ | (simp; done) | (simp; omega)) _) | (refine bl_trans ?_ (by assumption)))⟩
end Go.Proofs.Ytnhdhjijdcdilaa
