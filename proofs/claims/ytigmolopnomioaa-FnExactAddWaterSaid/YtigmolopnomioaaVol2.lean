/-
  Contracts on curves, the fourth part: levels of a curve, the volume at a level, the volume between two levels. They hold for every curve of at most 1048576 numbers a list.
-/
import Derived.Test.YtigmolopnomioaaVol
namespace Go.Proofs.Ytigmolopnomioaa
open Go.RowKit

theorem last_any (w : World) (A : Option Addr) (c : Nat) (xs : List Int) (hA : RC w A (ints xs)) (h1 : 1 ≤ xs.length) (hm : xs.length ≤ 1048576) :
    Calls Try.prog 42 #[.slice A xs.length c] w fun e w' => e = .returned (.int .i64 (gt xs (xs.length - 1))) ∧ w = w' := by
  obtain ⟨b, off, rfl, hbl, hcell⟩ := hA (by rw [ints_len]; omega)
  have g := hcell (xs.length - 1) (by rw [ints_len]; omega)
  rw [ints_get xs _ (by omega)] at g
  clear hcell
  go_enter Try.func42, Try.ntmps42
  go_wp2
  go_ret
  exact ⟨rfl, rfl⟩
set_option maxHeartbeats 800000 in
theorem isOn_any (w : World) (A A' : Option Addr) (k k' : Nat) (ls vs : List Int) (y : Int) (hA : RC w A (ints ls)) (hA' : RC w A' (ints vs)) (h1 : 2 ≤ ls.length) (hm : ls.length ≤ 12) :
    Calls Try.prog 35 #[.agg #[.slice A ls.length k, .slice A' vs.length k'], .int .i64 y] w fun e w' => e = .returned (.bool (onB ls y)) ∧ Below w.heap.size w w' := by
  have HA := Lib.hid hA
  clear hA hA'
  obtain ⟨b, off, rfl, hbl, hcell⟩ := HA.out (by rw [ints_len]; omega)
  have g := hcell 0 (by rw [ints_len]; omega)
  rw [ints_get ls 0 (by omega), Nat.add_zero] at g
  clear hcell
  go_enter Try.func35, Try.ntmps35
  go_wp2
  go_quiet ((first | (go_at_call 42; first | with_reducible exact quiet_eq (last_any _ _ _ _ ((HA.out.alloc _).drewN _) (by omega) (by omega)) | with_reducible exact quiet_add_eq (last_any _ _ _ _ ((HA.out.alloc _).drewN _) (by omega) (by omega))) | (go_at_call 41; first | with_reducible exact quiet_eq (in_any _ _ _ _) | with_reducible exact quiet_add_eq (in_any _ _ _ _))))
  go_wp2
  go_ret
  exact ⟨rfl, by repeat (first | exact Below.refl _ _ | assumption | apply bl_alloc | apply bl_drewN | apply Below.drew | (refine bl_set ?_ (by first | exact Nat.le_refl _ | (simp; done) | (simp; omega)) _) | (refine bl_trans ?_ (by assumption)))⟩
set_option maxHeartbeats 800000 in
theorem l05In_any (w : World) (p : Nat) (A : Option Addr) (k : Nat) (ls : List Int) (y : Int) (hp0 : w.cell? ⟨p, 0, none⟩ = some (.slice A ls.length k)) (hA : RC w A (ints ls)) (h1 : 2 ≤ ls.length) (hm : ls.length ≤ 12) :
    Calls Try.prog 55 #[.pointer (some ⟨p, 0, none⟩), .int .i64 y] w fun e w' => e = .returned (.bool (onB ls y)) ∧ ∃ d, w' = w.drewN d := by
  obtain ⟨b, off, rfl, hbl, hcell⟩ := hA (by rw [ints_len]; omega)
  have g := hcell 0 (by rw [ints_len]; omega)
  have g2 := hcell (ls.length - 1) (by rw [ints_len]; omega)
  rw [ints_get ls 0 (by omega), Nat.add_zero] at g
  rw [ints_get ls _ (by omega)] at g2
  clear hcell
  go_enter Try.func55, Try.ntmps55
  go_wp2
  go_quiet ((go_at_call 39; first | with_reducible exact quiet_eq (l00In_any _ _ _ _) | with_reducible exact quiet_add_eq (l00In_any _ _ _ _)))
  go_wp2
  go_ret
  exact ⟨rfl, by first | exact ⟨_, rfl⟩ | exact ⟨_, World.drewN_drewN _ _ _⟩⟩
set_option maxHeartbeats 800000 in
theorem l05Code_any (w : World) (p : Nat) (A A' : Option Addr) (k k' : Nat) (ls vs : List Int) (y : Int) (hp0 : w.cell? ⟨p, 0, none⟩ = some (.slice A ls.length k)) (hp1 : w.cell? ⟨p, 1, none⟩ = some (.slice A' vs.length k')) (hpl : p < w.heap.size) (hA : RC w A (ints ls)) (hA' : RC w A' (ints vs)) (hm : ls.length ≤ 1048576) (hm' : vs.length ≤ 1048576) :
    Calls Try.prog 31 #[.pointer (some ⟨p, 0, none⟩), .int .i64 y] w fun e w' => e = .returned (.int .i64 (atC ls vs y)) ∧ Below w.heap.size w w' := by
  have HA := Lib.hid hA
  have HB := Lib.hid hA'
  clear hA hA'
  cases k0 : curveOk ls vs
  · have H := Lib.hid (at_bad1 (y := y) k0).2
    go_enter Try.func31, Try.ntmps31
    go_wp2_with ((go_at_call 38; refine (l05Ok_any _ p _ _ k k' ls vs hp0 hp1 (HA.out.below (by repeat (first | exact Below.refl _ _ | assumption | apply bl_alloc | apply bl_drewN | apply Below.drew | (refine bl_set ?_ (by first | exact Nat.le_refl _ | (simp; done) | (simp; omega)) _) | (refine bl_trans ?_ (by assumption))))) (HB.out.below (by repeat (first | exact Below.refl _ _ | assumption | apply bl_alloc | apply bl_drewN | apply Below.drew | (refine bl_set ?_ (by first | exact Nat.le_refl _ | (simp; done) | (simp; omega)) _) | (refine bl_trans ?_ (by assumption))))) hm hm').mono ?_; rintro e w1 ⟨rfl, hb1⟩; have j0 := (hb1.cell (p := ⟨p, 0, none⟩) hpl).trans hp0))
    go_ret
    exact ⟨ret_int H.out.symm, by repeat (first | exact Below.refl _ _ | assumption | apply bl_alloc | apply bl_drewN | apply Below.drew | (refine bl_set ?_ (by first | exact Nat.le_refl _ | (simp; done) | (simp; omega)) _) | (refine bl_trans ?_ (by assumption)))⟩
  · have c0 := curveOk_of k0
    have n2 := c0.1
    have n12 := c0.2.1
    clear c0
    cases k1 : onB ls y
    · have H := Lib.hid (at_bad2 k0 k1).2
      go_enter Try.func31, Try.ntmps31
      go_wp2_with (first | (go_at_call 38; refine (l05Ok_any _ p _ _ k k' ls vs hp0 hp1 (HA.out.below (by repeat (first | exact Below.refl _ _ | assumption | apply bl_alloc | apply bl_drewN | apply Below.drew | (refine bl_set ?_ (by first | exact Nat.le_refl _ | (simp; done) | (simp; omega)) _) | (refine bl_trans ?_ (by assumption))))) (HB.out.below (by repeat (first | exact Below.refl _ _ | assumption | apply bl_alloc | apply bl_drewN | apply Below.drew | (refine bl_set ?_ (by first | exact Nat.le_refl _ | (simp; done) | (simp; omega)) _) | (refine bl_trans ?_ (by assumption))))) hm hm').mono ?_; rintro e w1 ⟨rfl, hb1⟩; have j0 := (hb1.cell (p := ⟨p, 0, none⟩) hpl).trans hp0) | (go_at_call 55; refine (l05In_any _ p _ k ls y j0 (HA.out.below (by repeat (first | exact Below.refl _ _ | assumption | apply bl_alloc | apply bl_drewN | apply Below.drew | (refine bl_set ?_ (by first | exact Nat.le_refl _ | (simp; done) | (simp; omega)) _) | (refine bl_trans ?_ (by assumption))))) n2 n12).mono ?_; rintro e w' ⟨rfl, dd, rfl⟩))
      go_ret
      exact ⟨ret_int H.out.symm, by repeat (first | exact Below.refl _ _ | assumption | apply bl_alloc | apply bl_drewN | apply Below.drew | (refine bl_set ?_ (by first | exact Nat.le_refl _ | (simp; done) | (simp; omega)) _) | (refine bl_trans ?_ (by assumption)))⟩
    · have H := Lib.hid (at_ok k0 k1).2
      go_enter Try.func31, Try.ntmps31
      go_wp2_with (first | (go_at_call 38; refine (l05Ok_any _ p _ _ k k' ls vs hp0 hp1 (HA.out.below (by repeat (first | exact Below.refl _ _ | assumption | apply bl_alloc | apply bl_drewN | apply Below.drew | (refine bl_set ?_ (by first | exact Nat.le_refl _ | (simp; done) | (simp; omega)) _) | (refine bl_trans ?_ (by assumption))))) (HB.out.below (by repeat (first | exact Below.refl _ _ | assumption | apply bl_alloc | apply bl_drewN | apply Below.drew | (refine bl_set ?_ (by first | exact Nat.le_refl _ | (simp; done) | (simp; omega)) _) | (refine bl_trans ?_ (by assumption))))) hm hm').mono ?_; rintro e w1 ⟨rfl, hb1⟩; have j0 := (hb1.cell (p := ⟨p, 0, none⟩) hpl).trans hp0) | (go_at_call 55; refine (l05In_any _ p _ k ls y j0 (HA.out.below (by repeat (first | exact Below.refl _ _ | assumption | apply bl_alloc | apply bl_drewN | apply Below.drew | (refine bl_set ?_ (by first | exact Nat.le_refl _ | (simp; done) | (simp; omega)) _) | (refine bl_trans ?_ (by assumption))))) n2 n12).mono ?_; rintro e w' ⟨rfl, dd, rfl⟩))
      go_ret
      exact ⟨ret_int H.out.symm, by repeat (first | exact Below.refl _ _ | assumption | apply bl_alloc | apply bl_drewN | apply Below.drew | (refine bl_set ?_ (by first | exact Nat.le_refl _ | (simp; done) | (simp; omega)) _) | (refine bl_trans ?_ (by assumption)))⟩
set_option maxHeartbeats 1600000 in
theorem implVolumeAt (w : World) (A A' : Option Addr) (k k' : Nat) (ls vs : List Int) (y : Int) (hA : RC w A (ints ls)) (hA' : RC w A' (ints vs)) (hm : ls.length ≤ 1048576) (hm' : vs.length ≤ 1048576) : Calls Try.prog 13 #[.agg #[.slice A ls.length k, .slice A' vs.length k'], .int .i64 y] w fun e w' => e = .returned (.tuple #[.int .i64 (atV ls vs y), .int .i64 (atC ls vs y)]) ∧ Below w.heap.size w w' := by
  have HA := Lib.hid hA
  have HB := Lib.hid hA'
  clear hA hA'
  cases k0 : curveOk ls vs
  · have H := Lib.hid (at_bad1 (y := y) k0)
    go_enter Try.func13, Try.ntmps13
    go_wp2_with ((go_at_call 34; refine (implValidCurve _ _ _ _ _ ls vs (HA.out.below (by repeat (first | exact Below.refl _ _ | assumption | apply bl_alloc | apply bl_drewN | apply Below.drew | (refine bl_set ?_ (by first | exact Nat.le_refl _ | (simp; done) | (simp; omega)) _) | (refine bl_trans ?_ (by assumption))))) (HB.out.below (by repeat (first | exact Below.refl _ _ | assumption | apply bl_alloc | apply bl_drewN | apply Below.drew | (refine bl_set ?_ (by first | exact Nat.le_refl _ | (simp; done) | (simp; omega)) _) | (refine bl_trans ?_ (by assumption))))) hm hm').mono ?_; rintro e w1 ⟨rfl, hb1⟩; have kx : w1.heap[w.heap.size]? = some (.cells #[.slice A ls.length k, .slice A' vs.length k'] 28 (0, 0)) := keep_blk (hb := hb1) (h := by first | exact kx | (repeat (first | (refine blk_new ?_; (first | rfl | (simp; done) | (simp; omega))) | refine blk_drewN ?_ | refine blk_old ?_))); obtain ⟨x0, x1, xl⟩ := row_two kx))
    go_ret2
    exact ⟨ret_two H.out.1.symm H.out.2.symm, by repeat (first | exact Below.refl _ _ | assumption | apply bl_alloc | apply bl_drewN | apply Below.drew | (refine bl_set ?_ (by first | exact Nat.le_refl _ | (simp; done) | (simp; omega)) _) | (refine bl_trans ?_ (by assumption)))⟩
  · have c0 := curveOk_of k0
    have n2 := c0.1
    have n12 := c0.2.1
    have ylast := (c0.2.2.2.1 (ls.length - 1) (by omega)).2
    clear c0
    cases k1 : onB ls y
    · have H := Lib.hid (at_bad2 k0 k1)
      go_enter Try.func13, Try.ntmps13
      go_wp2_with (first | (go_at_call 34; refine (implValidCurve _ _ _ _ _ ls vs (HA.out.below (by repeat (first | exact Below.refl _ _ | assumption | apply bl_alloc | apply bl_drewN | apply Below.drew | (refine bl_set ?_ (by first | exact Nat.le_refl _ | (simp; done) | (simp; omega)) _) | (refine bl_trans ?_ (by assumption))))) (HB.out.below (by repeat (first | exact Below.refl _ _ | assumption | apply bl_alloc | apply bl_drewN | apply Below.drew | (refine bl_set ?_ (by first | exact Nat.le_refl _ | (simp; done) | (simp; omega)) _) | (refine bl_trans ?_ (by assumption))))) hm hm').mono ?_; rintro e w1 ⟨rfl, hb1⟩; have kx : w1.heap[w.heap.size]? = some (.cells #[.slice A ls.length k, .slice A' vs.length k'] 28 (0, 0)) := keep_blk (hb := hb1) (h := by first | exact kx | (repeat (first | (refine blk_new ?_; (first | rfl | (simp; done) | (simp; omega))) | refine blk_drewN ?_ | refine blk_old ?_))); obtain ⟨x0, x1, xl⟩ := row_two kx) | (go_at_call 35; refine (isOn_any _ _ _ _ _ ls vs _ (HA.out.below (by repeat (first | exact Below.refl _ _ | assumption | apply bl_alloc | apply bl_drewN | apply Below.drew | (refine bl_set ?_ (by first | exact Nat.le_refl _ | (simp; done) | (simp; omega)) _) | (refine bl_trans ?_ (by assumption))))) (HB.out.below (by repeat (first | exact Below.refl _ _ | assumption | apply bl_alloc | apply bl_drewN | apply Below.drew | (refine bl_set ?_ (by first | exact Nat.le_refl _ | (simp; done) | (simp; omega)) _) | (refine bl_trans ?_ (by assumption))))) n2 n12).mono ?_; rintro e w1 ⟨rfl, hb1⟩; have kx : w1.heap[w.heap.size]? = some (.cells #[.slice A ls.length k, .slice A' vs.length k'] 28 (0, 0)) := keep_blk (hb := hb1) (h := by first | exact kx | (repeat (first | (refine blk_new ?_; (first | rfl | (simp; done) | (simp; omega))) | refine blk_drewN ?_ | refine blk_old ?_))); obtain ⟨x0, x1, xl⟩ := row_two kx))
      go_ret2
      exact ⟨ret_two H.out.1.symm H.out.2.symm, by repeat (first | exact Below.refl _ _ | assumption | apply bl_alloc | apply bl_drewN | apply Below.drew | (refine bl_set ?_ (by first | exact Nat.le_refl _ | (simp; done) | (simp; omega)) _) | (refine bl_trans ?_ (by assumption)))⟩
    · have H := Lib.hid (at_ok k0 k1)
      have i1 := inR_of k1
      go_enter Try.func13, Try.ntmps13
      go_wp2_with (first | (go_at_call 34; refine (implValidCurve _ _ _ _ _ ls vs (HA.out.below (by repeat (first | exact Below.refl _ _ | assumption | apply bl_alloc | apply bl_drewN | apply Below.drew | (refine bl_set ?_ (by first | exact Nat.le_refl _ | (simp; done) | (simp; omega)) _) | (refine bl_trans ?_ (by assumption))))) (HB.out.below (by repeat (first | exact Below.refl _ _ | assumption | apply bl_alloc | apply bl_drewN | apply Below.drew | (refine bl_set ?_ (by first | exact Nat.le_refl _ | (simp; done) | (simp; omega)) _) | (refine bl_trans ?_ (by assumption))))) hm hm').mono ?_; rintro e w1 ⟨rfl, hb1⟩; have kx : w1.heap[w.heap.size]? = some (.cells #[.slice A ls.length k, .slice A' vs.length k'] 28 (0, 0)) := keep_blk (hb := hb1) (h := by first | exact kx | (repeat (first | (refine blk_new ?_; (first | rfl | (simp; done) | (simp; omega))) | refine blk_drewN ?_ | refine blk_old ?_))); obtain ⟨x0, x1, xl⟩ := row_two kx) | (go_at_call 35; refine (isOn_any _ _ _ _ _ ls vs _ (HA.out.below (by repeat (first | exact Below.refl _ _ | assumption | apply bl_alloc | apply bl_drewN | apply Below.drew | (refine bl_set ?_ (by first | exact Nat.le_refl _ | (simp; done) | (simp; omega)) _) | (refine bl_trans ?_ (by assumption))))) (HB.out.below (by repeat (first | exact Below.refl _ _ | assumption | apply bl_alloc | apply bl_drewN | apply Below.drew | (refine bl_set ?_ (by first | exact Nat.le_refl _ | (simp; done) | (simp; omega)) _) | (refine bl_trans ?_ (by assumption))))) n2 n12).mono ?_; rintro e w1 ⟨rfl, hb1⟩; have kx : w1.heap[w.heap.size]? = some (.cells #[.slice A ls.length k, .slice A' vs.length k'] 28 (0, 0)) := keep_blk (hb := hb1) (h := by first | exact kx | (repeat (first | (refine blk_new ?_; (first | rfl | (simp; done) | (simp; omega))) | refine blk_drewN ?_ | refine blk_old ?_))); obtain ⟨x0, x1, xl⟩ := row_two kx) | (go_at_call 36; refine (implVolume _ _ _ _ _ ls vs _ (HA.out.below (by repeat (first | exact Below.refl _ _ | assumption | apply bl_alloc | apply bl_drewN | apply Below.drew | (refine bl_set ?_ (by first | exact Nat.le_refl _ | (simp; done) | (simp; omega)) _) | (refine bl_trans ?_ (by assumption))))) (HB.out.below (by repeat (first | exact Below.refl _ _ | assumption | apply bl_alloc | apply bl_drewN | apply Below.drew | (refine bl_set ?_ (by first | exact Nat.le_refl _ | (simp; done) | (simp; omega)) _) | (refine bl_trans ?_ (by assumption))))) k0 i1.1 (by omega)).mono ?_; rintro e w1 ⟨rfl, hb1⟩; have kx : w1.heap[w.heap.size]? = some (.cells #[.slice A ls.length k, .slice A' vs.length k'] 28 (0, 0)) := keep_blk (hb := hb1) (h := by first | exact kx | (repeat (first | (refine blk_new ?_; (first | rfl | (simp; done) | (simp; omega))) | refine blk_drewN ?_ | refine blk_old ?_))); obtain ⟨x0, x1, xl⟩ := row_two kx))
      go_ret2
      exact ⟨ret_two H.out.1.symm H.out.2.symm, by repeat (first | exact Below.refl _ _ | assumption | apply bl_alloc | apply bl_drewN | apply Below.drew | (refine bl_set ?_ (by first | exact Nat.le_refl _ | (simp; done) | (simp; omega)) _) | (refine bl_trans ?_ (by assumption)))⟩
set_option maxHeartbeats 1600000 in
theorem specVolumeAt (w : World) (A A' : Option Addr) (k k' : Nat) (ls vs : List Int) (y : Int) (hA : RC w A (ints ls)) (hA' : RC w A' (ints vs)) (hm : ls.length ≤ 1048576) (hm' : vs.length ≤ 1048576) : Calls Try.prog 11 #[.agg #[.slice A ls.length k, .slice A' vs.length k'], .int .i64 y] w fun e w' => e = .returned (.tuple #[.int .i64 (atV ls vs y), .int .i64 (atC ls vs y)]) ∧ Below w.heap.size w w' := by
  have HA := Lib.hid hA
  have HB := Lib.hid hA'
  clear hA hA'
  cases k0 : curveOk ls vs
  · have H := Lib.hid (at_bad1 (y := y) k0).1
    have hcc := (at_bad1 (y := y) k0).2
    go_enter Try.func11, Try.ntmps11
    go_wp2_with ((go_at_call 31; refine (l05Code_any _ w.heap.size _ _ k k' ls vs y (by first | exact x0 | (simp [go_sem])) (by first | exact x1 | (simp [go_sem])) (by first | exact xl | (simp; done) | (simp; omega)) (HA.out.below (by repeat (first | exact Below.refl _ _ | assumption | apply bl_alloc | apply bl_drewN | apply Below.drew | (refine bl_set ?_ (by first | exact Nat.le_refl _ | (simp; done) | (simp; omega)) _) | (refine bl_trans ?_ (by assumption))))) (HB.out.below (by repeat (first | exact Below.refl _ _ | assumption | apply bl_alloc | apply bl_drewN | apply Below.drew | (refine bl_set ?_ (by first | exact Nat.le_refl _ | (simp; done) | (simp; omega)) _) | (refine bl_trans ?_ (by assumption))))) hm hm').mono ?_; rintro e w1 ⟨rfl, hb1⟩; have kx : w1.heap[w.heap.size]? = some (.cells #[.slice A ls.length k, .slice A' vs.length k'] 28 (0, 0)) := keep_blk (hb := hb1) (h := by first | exact kx | (repeat (first | (refine blk_new ?_; (first | rfl | (simp; done) | (simp; omega))) | refine blk_drewN ?_ | refine blk_old ?_))); obtain ⟨x0, x1, xl⟩ := row_two kx))
    go_ret2
    exact ⟨ret_two H.out.symm hcc.symm, by repeat (first | exact Below.refl _ _ | assumption | apply bl_alloc | apply bl_drewN | apply Below.drew | (refine bl_set ?_ (by first | exact Nat.le_refl _ | (simp; done) | (simp; omega)) _) | (refine bl_trans ?_ (by assumption)))⟩
  · have c0 := curveOk_of k0
    have n2 := c0.1
    have n12 := c0.2.1
    have ylast := (c0.2.2.2.1 (ls.length - 1) (by omega)).2
    clear c0
    cases k1 : onB ls y
    · have H := Lib.hid (at_bad2 k0 k1).1
      have hcc := (at_bad2 k0 k1).2
      go_enter Try.func11, Try.ntmps11
      go_wp2_with ((go_at_call 31; refine (l05Code_any _ w.heap.size _ _ k k' ls vs y (by first | exact x0 | (simp [go_sem])) (by first | exact x1 | (simp [go_sem])) (by first | exact xl | (simp; done) | (simp; omega)) (HA.out.below (by repeat (first | exact Below.refl _ _ | assumption | apply bl_alloc | apply bl_drewN | apply Below.drew | (refine bl_set ?_ (by first | exact Nat.le_refl _ | (simp; done) | (simp; omega)) _) | (refine bl_trans ?_ (by assumption))))) (HB.out.below (by repeat (first | exact Below.refl _ _ | assumption | apply bl_alloc | apply bl_drewN | apply Below.drew | (refine bl_set ?_ (by first | exact Nat.le_refl _ | (simp; done) | (simp; omega)) _) | (refine bl_trans ?_ (by assumption))))) hm hm').mono ?_; rintro e w1 ⟨rfl, hb1⟩; have kx : w1.heap[w.heap.size]? = some (.cells #[.slice A ls.length k, .slice A' vs.length k'] 28 (0, 0)) := keep_blk (hb := hb1) (h := by first | exact kx | (repeat (first | (refine blk_new ?_; (first | rfl | (simp; done) | (simp; omega))) | refine blk_drewN ?_ | refine blk_old ?_))); obtain ⟨x0, x1, xl⟩ := row_two kx))
      go_ret2
      exact ⟨ret_two H.out.symm hcc.symm, by repeat (first | exact Below.refl _ _ | assumption | apply bl_alloc | apply bl_drewN | apply Below.drew | (refine bl_set ?_ (by first | exact Nat.le_refl _ | (simp; done) | (simp; omega)) _) | (refine bl_trans ?_ (by assumption)))⟩
    · have H := Lib.hid (at_ok k0 k1).1
      have hcc := (at_ok k0 k1).2
      have i1 := inR_of k1
      go_enter Try.func11, Try.ntmps11
      go_wp2_with (first | (go_at_call 31; refine (l05Code_any _ w.heap.size _ _ k k' ls vs y (by first | exact x0 | (simp [go_sem])) (by first | exact x1 | (simp [go_sem])) (by first | exact xl | (simp; done) | (simp; omega)) (HA.out.below (by repeat (first | exact Below.refl _ _ | assumption | apply bl_alloc | apply bl_drewN | apply Below.drew | (refine bl_set ?_ (by first | exact Nat.le_refl _ | (simp; done) | (simp; omega)) _) | (refine bl_trans ?_ (by assumption))))) (HB.out.below (by repeat (first | exact Below.refl _ _ | assumption | apply bl_alloc | apply bl_drewN | apply Below.drew | (refine bl_set ?_ (by first | exact Nat.le_refl _ | (simp; done) | (simp; omega)) _) | (refine bl_trans ?_ (by assumption))))) hm hm').mono ?_; rintro e w1 ⟨rfl, hb1⟩; have kx : w1.heap[w.heap.size]? = some (.cells #[.slice A ls.length k, .slice A' vs.length k'] 28 (0, 0)) := keep_blk (hb := hb1) (h := by first | exact kx | (repeat (first | (refine blk_new ?_; (first | rfl | (simp; done) | (simp; omega))) | refine blk_drewN ?_ | refine blk_old ?_))); obtain ⟨x0, x1, xl⟩ := row_two kx) | (go_at_call 32; refine (l05Volume_any _ w.heap.size _ _ k k' ls vs y (by first | exact x0 | (simp [go_sem])) (by first | exact x1 | (simp [go_sem])) (HA.out.below (by repeat (first | exact Below.refl _ _ | assumption | apply bl_alloc | apply bl_drewN | apply Below.drew | (refine bl_set ?_ (by first | exact Nat.le_refl _ | (simp; done) | (simp; omega)) _) | (refine bl_trans ?_ (by assumption))))) (HB.out.below (by repeat (first | exact Below.refl _ _ | assumption | apply bl_alloc | apply bl_drewN | apply Below.drew | (refine bl_set ?_ (by first | exact Nat.le_refl _ | (simp; done) | (simp; omega)) _) | (refine bl_trans ?_ (by assumption))))) k0 i1.1 (by omega)).mono ?_; rintro e w' ⟨rfl, dd, rfl⟩))
      go_ret2
      exact ⟨ret_two H.out.symm hcc.symm, by repeat (first | exact Below.refl _ _ | assumption | apply bl_alloc | apply bl_drewN | apply Below.drew | (refine bl_set ?_ (by first | exact Nat.le_refl _ | (simp; done) | (simp; omega)) _) | (refine bl_trans ?_ (by assumption)))⟩
end Go.Proofs.Ytigmolopnomioaa
