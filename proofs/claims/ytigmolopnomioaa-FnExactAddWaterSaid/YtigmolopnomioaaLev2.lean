/-
  Contracts on curves, the eighth part: the level with a volume.
-/
import Derived.Test.YtigmolopnomioaaLev
namespace Go.Proofs.Ytigmolopnomioaa
open Go.RowKit

set_option maxHeartbeats 1600000 in
theorem implLevelAt (w : World) (A A' : Option Addr) (k k' : Nat) (ls vs : List Int) (v : Int) (hA : RC w A (ints ls)) (hA' : RC w A' (ints vs)) (hm : ls.length ≤ 1048576) (hm' : vs.length ≤ 1048576) : Calls Try.prog 18 #[.agg #[.slice A ls.length k, .slice A' vs.length k'], .int .i64 v] w fun e w' => e = .returned (.tuple #[.int .i64 (lvV ls vs v), .int .i64 (lvC ls vs v)]) ∧ Below w.heap.size w w' := by
  have HA := Lib.hid hA
  have HB := Lib.hid hA'
  clear hA hA'
  cases k0 : curveOk ls vs
  · skip
    have H := Lib.hid (lv_bad1 (v := v) k0)
    go_enter Try.func18, Try.ntmps18
    go_wp2_with ((go_at_call 34; refine (implValidCurve _ _ _ _ _ ls vs (HA.out.below (by repeat (first | exact Below.refl _ _ | assumption | apply bl_alloc | apply bl_drewN | apply Below.drew | (refine bl_set ?_ (by first | exact Nat.le_refl _ | (simp; done) | (simp; omega)) _) | (refine bl_trans ?_ (by assumption))))) (HB.out.below (by repeat (first | exact Below.refl _ _ | assumption | apply bl_alloc | apply bl_drewN | apply Below.drew | (refine bl_set ?_ (by first | exact Nat.le_refl _ | (simp; done) | (simp; omega)) _) | (refine bl_trans ?_ (by assumption))))) hm hm').mono ?_; rintro e w1 ⟨rfl, hb1⟩; have kx : w1.heap[w.heap.size]? = some (.cells #[.slice A ls.length k, .slice A' vs.length k'] 28 (0, 0)) := keep_blk (hb := hb1) (h := by first | exact kx | (repeat (first | (refine blk_new ?_; (first | rfl | (simp; done) | (simp; omega))) | refine blk_drewN ?_ | refine blk_old ?_))); obtain ⟨x0, x1, xl⟩ := row_two kx))
    go_ret2
    exact ⟨ret_two H.out.1.symm H.out.2.symm, by repeat (first | exact Below.refl _ _ | assumption | apply bl_alloc | apply bl_drewN | apply Below.drew | (refine bl_set ?_ (by first | exact Nat.le_refl _ | (simp; done) | (simp; omega)) _) | (refine bl_trans ?_ (by assumption)))⟩
  · have c0 := curveOk_of k0
    have n2 := c0.1
    have n12 := c0.2.1
    have n4 : 1 ≤ vs.length := by have := c0.2.2.1; omega
    have vb := c0.2.2.2.2.2.1 (vs.length - 1) (by omega)
    clear c0
    cases k1 : inR v 0 1000000000
    · skip
      have H := Lib.hid (lv_bad2 k0 k1)
      go_enter Try.func18, Try.ntmps18
      go_wp2_with (first | (go_at_call 34; refine (implValidCurve _ _ _ _ _ ls vs (HA.out.below (by repeat (first | exact Below.refl _ _ | assumption | apply bl_alloc | apply bl_drewN | apply Below.drew | (refine bl_set ?_ (by first | exact Nat.le_refl _ | (simp; done) | (simp; omega)) _) | (refine bl_trans ?_ (by assumption))))) (HB.out.below (by repeat (first | exact Below.refl _ _ | assumption | apply bl_alloc | apply bl_drewN | apply Below.drew | (refine bl_set ?_ (by first | exact Nat.le_refl _ | (simp; done) | (simp; omega)) _) | (refine bl_trans ?_ (by assumption))))) hm hm').mono ?_; rintro e w1 ⟨rfl, hb1⟩; have kx : w1.heap[w.heap.size]? = some (.cells #[.slice A ls.length k, .slice A' vs.length k'] 28 (0, 0)) := keep_blk (hb := hb1) (h := by first | exact kx | (repeat (first | (refine blk_new ?_; (first | rfl | (simp; done) | (simp; omega))) | refine blk_drewN ?_ | refine blk_old ?_))); obtain ⟨x0, x1, xl⟩ := row_two kx) | (go_at_call 41; refine (in_any _ _ _ _).mono ?_; rintro e w' ⟨rfl, rfl⟩))
      go_ret2
      exact ⟨ret_two H.out.1.symm H.out.2.symm, by repeat (first | exact Below.refl _ _ | assumption | apply bl_alloc | apply bl_drewN | apply Below.drew | (refine bl_set ?_ (by first | exact Nat.le_refl _ | (simp; done) | (simp; omega)) _) | (refine bl_trans ?_ (by assumption)))⟩
    · by_cases k2 : v ≤ gt vs (vs.length - 1)
      · skip
        have H := Lib.hid (lv_ok k0 k1 k2)
        go_enter Try.func18, Try.ntmps18
        go_wp2_with (first | (go_at_call 34; refine (implValidCurve _ _ _ _ _ ls vs (HA.out.below (by repeat (first | exact Below.refl _ _ | assumption | apply bl_alloc | apply bl_drewN | apply Below.drew | (refine bl_set ?_ (by first | exact Nat.le_refl _ | (simp; done) | (simp; omega)) _) | (refine bl_trans ?_ (by assumption))))) (HB.out.below (by repeat (first | exact Below.refl _ _ | assumption | apply bl_alloc | apply bl_drewN | apply Below.drew | (refine bl_set ?_ (by first | exact Nat.le_refl _ | (simp; done) | (simp; omega)) _) | (refine bl_trans ?_ (by assumption))))) hm hm').mono ?_; rintro e w1 ⟨rfl, hb1⟩; have kx : w1.heap[w.heap.size]? = some (.cells #[.slice A ls.length k, .slice A' vs.length k'] 28 (0, 0)) := keep_blk (hb := hb1) (h := by first | exact kx | (repeat (first | (refine blk_new ?_; (first | rfl | (simp; done) | (simp; omega))) | refine blk_drewN ?_ | refine blk_old ?_))); obtain ⟨x0, x1, xl⟩ := row_two kx) | (go_at_call 41; refine (in_any _ _ _ _).mono ?_; rintro e w' ⟨rfl, rfl⟩) | (go_at_call 42; refine (last_any _ _ _ vs (HB.out.below (by repeat (first | exact Below.refl _ _ | assumption | apply bl_alloc | apply bl_drewN | apply Below.drew | (refine bl_set ?_ (by first | exact Nat.le_refl _ | (simp; done) | (simp; omega)) _) | (refine bl_trans ?_ (by assumption))))) (by omega) (by omega)).mono ?_; rintro e w' ⟨rfl, rfl⟩) | (go_at_call 43; refine (implLevel _ _ _ _ _ ls vs v _ (HA.out.below (by repeat (first | exact Below.refl _ _ | assumption | apply bl_alloc | apply bl_drewN | apply Below.drew | (refine bl_set ?_ (by first | exact Nat.le_refl _ | (simp; done) | (simp; omega)) _) | (refine bl_trans ?_ (by assumption))))) (HB.out.below (by repeat (first | exact Below.refl _ _ | assumption | apply bl_alloc | apply bl_drewN | apply Below.drew | (refine bl_set ?_ (by first | exact Nat.le_refl _ | (simp; done) | (simp; omega)) _) | (refine bl_trans ?_ (by assumption))))) k0 (levOf_spec k0 k2)).mono ?_; rintro e w1 ⟨rfl, hb1⟩; have kx : w1.heap[w.heap.size]? = some (.cells #[.slice A ls.length k, .slice A' vs.length k'] 28 (0, 0)) := keep_blk (hb := hb1) (h := by first | exact kx | (repeat (first | (refine blk_new ?_; (first | rfl | (simp; done) | (simp; omega))) | refine blk_drewN ?_ | refine blk_old ?_))); obtain ⟨x0, x1, xl⟩ := row_two kx))
        go_ret2
        exact ⟨ret_two H.out.1.symm H.out.2.symm, by repeat (first | exact Below.refl _ _ | assumption | apply bl_alloc | apply bl_drewN | apply Below.drew | (refine bl_set ?_ (by first | exact Nat.le_refl _ | (simp; done) | (simp; omega)) _) | (refine bl_trans ?_ (by assumption)))⟩
      · skip
        have H := Lib.hid (lv_bad3 k0 k1 k2)
        go_enter Try.func18, Try.ntmps18
        go_wp2_with (first | (go_at_call 34; refine (implValidCurve _ _ _ _ _ ls vs (HA.out.below (by repeat (first | exact Below.refl _ _ | assumption | apply bl_alloc | apply bl_drewN | apply Below.drew | (refine bl_set ?_ (by first | exact Nat.le_refl _ | (simp; done) | (simp; omega)) _) | (refine bl_trans ?_ (by assumption))))) (HB.out.below (by repeat (first | exact Below.refl _ _ | assumption | apply bl_alloc | apply bl_drewN | apply Below.drew | (refine bl_set ?_ (by first | exact Nat.le_refl _ | (simp; done) | (simp; omega)) _) | (refine bl_trans ?_ (by assumption))))) hm hm').mono ?_; rintro e w1 ⟨rfl, hb1⟩; have kx : w1.heap[w.heap.size]? = some (.cells #[.slice A ls.length k, .slice A' vs.length k'] 28 (0, 0)) := keep_blk (hb := hb1) (h := by first | exact kx | (repeat (first | (refine blk_new ?_; (first | rfl | (simp; done) | (simp; omega))) | refine blk_drewN ?_ | refine blk_old ?_))); obtain ⟨x0, x1, xl⟩ := row_two kx) | (go_at_call 41; refine (in_any _ _ _ _).mono ?_; rintro e w' ⟨rfl, rfl⟩) | (go_at_call 42; refine (last_any _ _ _ vs (HB.out.below (by repeat (first | exact Below.refl _ _ | assumption | apply bl_alloc | apply bl_drewN | apply Below.drew | (refine bl_set ?_ (by first | exact Nat.le_refl _ | (simp; done) | (simp; omega)) _) | (refine bl_trans ?_ (by assumption))))) (by omega) (by omega)).mono ?_; rintro e w' ⟨rfl, rfl⟩))
        go_ret2
        exact ⟨ret_two H.out.1.symm H.out.2.symm, by repeat (first | exact Below.refl _ _ | assumption | apply bl_alloc | apply bl_drewN | apply Below.drew | (refine bl_set ?_ (by first | exact Nat.le_refl _ | (simp; done) | (simp; omega)) _) | (refine bl_trans ?_ (by assumption)))⟩
set_option maxHeartbeats 1600000 in
theorem specLevelAt (w : World) (A A' : Option Addr) (k k' : Nat) (ls vs : List Int) (v : Int) (hA : RC w A (ints ls)) (hA' : RC w A' (ints vs)) (hm : ls.length ≤ 1048576) (hm' : vs.length ≤ 1048576) : Calls Try.prog 17 #[.agg #[.slice A ls.length k, .slice A' vs.length k'], .int .i64 v] w fun e w' => e = .returned (.tuple #[.int .i64 (lvV ls vs v), .int .i64 (lvC ls vs v)]) ∧ Below w.heap.size w w' := by
  have HA := Lib.hid hA
  have HB := Lib.hid hA'
  clear hA hA'
  cases k0 : curveOk ls vs
  · skip
    have H := Lib.hid (lv_bad1 (v := v) k0)
    go_enter Try.func17, Try.ntmps17
    go_wp2_with ((go_at_call 38; refine (l05Ok_any _ w.heap.size _ _ k k' ls vs (by first | exact x0 | (simp [go_sem])) (by first | exact x1 | (simp [go_sem])) (HA.out.below (by repeat (first | exact Below.refl _ _ | assumption | apply bl_alloc | apply bl_drewN | apply Below.drew | (refine bl_set ?_ (by first | exact Nat.le_refl _ | (simp; done) | (simp; omega)) _) | (refine bl_trans ?_ (by assumption))))) (HB.out.below (by repeat (first | exact Below.refl _ _ | assumption | apply bl_alloc | apply bl_drewN | apply Below.drew | (refine bl_set ?_ (by first | exact Nat.le_refl _ | (simp; done) | (simp; omega)) _) | (refine bl_trans ?_ (by assumption))))) hm hm').mono ?_; rintro e w1 ⟨rfl, hb1⟩; have kx : w1.heap[w.heap.size]? = some (.cells #[.slice A ls.length k, .slice A' vs.length k'] 28 (0, 0)) := keep_blk (hb := hb1) (h := by first | exact kx | (repeat (first | (refine blk_new ?_; (first | rfl | (simp; done) | (simp; omega))) | refine blk_drewN ?_ | refine blk_old ?_))); obtain ⟨x0, x1, xl⟩ := row_two kx))
    go_ret2
    exact ⟨ret_two H.out.1.symm H.out.2.symm, by repeat (first | exact Below.refl _ _ | assumption | apply bl_alloc | apply bl_drewN | apply Below.drew | (refine bl_set ?_ (by first | exact Nat.le_refl _ | (simp; done) | (simp; omega)) _) | (refine bl_trans ?_ (by assumption)))⟩
  · have c0 := curveOk_of k0
    have n2 := c0.1
    have n12 := c0.2.1
    have n4 : 1 ≤ vs.length := by have := c0.2.2.1; omega
    have vb := c0.2.2.2.2.2.1 (vs.length - 1) (by omega)
    clear c0
    obtain ⟨b, off, rfl, hbl, hcell⟩ := HB.out (by rw [ints_len]; omega)
    have g := hcell (vs.length - 1) (by rw [ints_len]; omega)
    rw [ints_get vs _ (by omega)] at g
    clear hcell
    cases k1 : inR v 0 1000000000
    · skip
      have H := Lib.hid (lv_bad2 k0 k1)
      go_enter Try.func17, Try.ntmps17
      go_wp2_with (first | (go_at_call 38; refine (l05Ok_any _ w.heap.size _ _ k k' ls vs (by first | exact x0 | (simp [go_sem])) (by first | exact x1 | (simp [go_sem])) (HA.out.below (by repeat (first | exact Below.refl _ _ | assumption | apply bl_alloc | apply bl_drewN | apply Below.drew | (refine bl_set ?_ (by first | exact Nat.le_refl _ | (simp; done) | (simp; omega)) _) | (refine bl_trans ?_ (by assumption))))) (HB.out.below (by repeat (first | exact Below.refl _ _ | assumption | apply bl_alloc | apply bl_drewN | apply Below.drew | (refine bl_set ?_ (by first | exact Nat.le_refl _ | (simp; done) | (simp; omega)) _) | (refine bl_trans ?_ (by assumption))))) hm hm').mono ?_; rintro e w1 ⟨rfl, hb1⟩; have kx : w1.heap[w.heap.size]? = some (.cells #[.slice A ls.length k, .slice (some ⟨b, off, none⟩) vs.length k'] 28 (0, 0)) := keep_blk (hb := hb1) (h := by first | exact kx | (repeat (first | (refine blk_new ?_; (first | rfl | (simp; done) | (simp; omega))) | refine blk_drewN ?_ | refine blk_old ?_))); obtain ⟨x0, x1, xl⟩ := row_two kx ; have h9 := (Below.cell (w := w) (w' := w1) (B := w.heap.size) (p := ⟨b, off + (vs.length - 1), none⟩) (by repeat (first | exact Below.refl _ _ | assumption | apply bl_alloc | apply bl_drewN | apply Below.drew | (refine bl_set ?_ (by first | exact Nat.le_refl _ | (simp; done) | (simp; omega)) _) | (refine bl_trans ?_ (by assumption)))) hbl).trans g) | (go_at_call 39; refine (l00In_any _ _ _ _).mono ?_; rintro e w' ⟨rfl, rfl⟩))
      go_ret2
      exact ⟨ret_two H.out.1.symm H.out.2.symm, by repeat (first | exact Below.refl _ _ | assumption | apply bl_alloc | apply bl_drewN | apply Below.drew | (refine bl_set ?_ (by first | exact Nat.le_refl _ | (simp; done) | (simp; omega)) _) | (refine bl_trans ?_ (by assumption)))⟩
    · by_cases k2 : v ≤ gt vs (vs.length - 1)
      · skip
        have H := Lib.hid (lv_ok k0 k1 k2)
        go_enter Try.func17, Try.ntmps17
        go_wp2_with (first | (go_at_call 38; refine (l05Ok_any _ w.heap.size _ _ k k' ls vs (by first | exact x0 | (simp [go_sem])) (by first | exact x1 | (simp [go_sem])) (HA.out.below (by repeat (first | exact Below.refl _ _ | assumption | apply bl_alloc | apply bl_drewN | apply Below.drew | (refine bl_set ?_ (by first | exact Nat.le_refl _ | (simp; done) | (simp; omega)) _) | (refine bl_trans ?_ (by assumption))))) (HB.out.below (by repeat (first | exact Below.refl _ _ | assumption | apply bl_alloc | apply bl_drewN | apply Below.drew | (refine bl_set ?_ (by first | exact Nat.le_refl _ | (simp; done) | (simp; omega)) _) | (refine bl_trans ?_ (by assumption))))) hm hm').mono ?_; rintro e w1 ⟨rfl, hb1⟩; have kx : w1.heap[w.heap.size]? = some (.cells #[.slice A ls.length k, .slice (some ⟨b, off, none⟩) vs.length k'] 28 (0, 0)) := keep_blk (hb := hb1) (h := by first | exact kx | (repeat (first | (refine blk_new ?_; (first | rfl | (simp; done) | (simp; omega))) | refine blk_drewN ?_ | refine blk_old ?_))); obtain ⟨x0, x1, xl⟩ := row_two kx ; have h9 := (Below.cell (w := w) (w' := w1) (B := w.heap.size) (p := ⟨b, off + (vs.length - 1), none⟩) (by repeat (first | exact Below.refl _ _ | assumption | apply bl_alloc | apply bl_drewN | apply Below.drew | (refine bl_set ?_ (by first | exact Nat.le_refl _ | (simp; done) | (simp; omega)) _) | (refine bl_trans ?_ (by assumption)))) hbl).trans g) | (go_at_call 39; refine (l00In_any _ _ _ _).mono ?_; rintro e w' ⟨rfl, rfl⟩) | (go_at_call 40; refine (l05Level_any _ w.heap.size _ _ k k' ls vs v _ (by first | exact x0 | (simp [go_sem])) (by first | exact x1 | (simp [go_sem])) (HA.out.below (by repeat (first | exact Below.refl _ _ | assumption | apply bl_alloc | apply bl_drewN | apply Below.drew | (refine bl_set ?_ (by first | exact Nat.le_refl _ | (simp; done) | (simp; omega)) _) | (refine bl_trans ?_ (by assumption))))) (HB.out.below (by repeat (first | exact Below.refl _ _ | assumption | apply bl_alloc | apply bl_drewN | apply Below.drew | (refine bl_set ?_ (by first | exact Nat.le_refl _ | (simp; done) | (simp; omega)) _) | (refine bl_trans ?_ (by assumption))))) k0 (levOf_spec k0 k2)).mono ?_; rintro e w' ⟨rfl, dd, rfl⟩))
        go_ret2
        exact ⟨ret_two H.out.1.symm H.out.2.symm, by repeat (first | exact Below.refl _ _ | assumption | apply bl_alloc | apply bl_drewN | apply Below.drew | (refine bl_set ?_ (by first | exact Nat.le_refl _ | (simp; done) | (simp; omega)) _) | (refine bl_trans ?_ (by assumption)))⟩
      · skip
        have H := Lib.hid (lv_bad3 k0 k1 k2)
        go_enter Try.func17, Try.ntmps17
        go_wp2_with (first | (go_at_call 38; refine (l05Ok_any _ w.heap.size _ _ k k' ls vs (by first | exact x0 | (simp [go_sem])) (by first | exact x1 | (simp [go_sem])) (HA.out.below (by repeat (first | exact Below.refl _ _ | assumption | apply bl_alloc | apply bl_drewN | apply Below.drew | (refine bl_set ?_ (by first | exact Nat.le_refl _ | (simp; done) | (simp; omega)) _) | (refine bl_trans ?_ (by assumption))))) (HB.out.below (by repeat (first | exact Below.refl _ _ | assumption | apply bl_alloc | apply bl_drewN | apply Below.drew | (refine bl_set ?_ (by first | exact Nat.le_refl _ | (simp; done) | (simp; omega)) _) | (refine bl_trans ?_ (by assumption))))) hm hm').mono ?_; rintro e w1 ⟨rfl, hb1⟩; have kx : w1.heap[w.heap.size]? = some (.cells #[.slice A ls.length k, .slice (some ⟨b, off, none⟩) vs.length k'] 28 (0, 0)) := keep_blk (hb := hb1) (h := by first | exact kx | (repeat (first | (refine blk_new ?_; (first | rfl | (simp; done) | (simp; omega))) | refine blk_drewN ?_ | refine blk_old ?_))); obtain ⟨x0, x1, xl⟩ := row_two kx ; have h9 := (Below.cell (w := w) (w' := w1) (B := w.heap.size) (p := ⟨b, off + (vs.length - 1), none⟩) (by repeat (first | exact Below.refl _ _ | assumption | apply bl_alloc | apply bl_drewN | apply Below.drew | (refine bl_set ?_ (by first | exact Nat.le_refl _ | (simp; done) | (simp; omega)) _) | (refine bl_trans ?_ (by assumption)))) hbl).trans g) | (go_at_call 39; refine (l00In_any _ _ _ _).mono ?_; rintro e w' ⟨rfl, rfl⟩))
        go_ret2
        exact ⟨ret_two H.out.1.symm H.out.2.symm, by repeat (first | exact Below.refl _ _ | assumption | apply bl_alloc | apply bl_drewN | apply Below.drew | (refine bl_set ?_ (by first | exact Nat.le_refl _ | (simp; done) | (simp; omega)) _) | (refine bl_trans ?_ (by assumption)))⟩
end Go.Proofs.Ytigmolopnomioaa
