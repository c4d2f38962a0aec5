/-
  Contracts on curves, the fourth part: levels of a curve, the volume at a level, the volume between two levels. They hold for every curve of at most 1048576 numbers a list.
-/
import Derived.Test.YtnhdhjijdcdilaaVol
namespace Go.Proofs.Ytnhdhjijdcdilaa
set_option linter.unusedVariables false
open Go.RowKit

theorem last_any (w : World) (A : Option Addr) (c : Nat) (xs : List Int) (hA : RC w A (ints xs)) (h1 : 1 ≤ xs.length) (hm : xs.length ≤ 1048576) :
    Calls Try.prog 91 #[.slice A xs.length c] w fun e w' => e = .returned (.int .i64 (gt xs (xs.length - 1))) ∧ w = w' := by
  obtain ⟨b, off, rfl, hbl, hcell⟩ := hA (by rw [ints_len]; omega)
  have g := hcell (xs.length - 1) (by rw [ints_len]; omega)
  rw [ints_get xs _ (by omega)] at g
  clear hcell
  go_enter Try.func91, Try.ntmps91
  go_wp2
  go_ret
  exact ⟨rfl, rfl⟩
set_option maxHeartbeats 800000 in
theorem isOn_any (w : World) (A A' : Option Addr) (k k' : Nat) (ls vs : List Int) (y : Int) (hA : RC w A (ints ls)) (hA' : RC w A' (ints vs)) (h1 : 2 ≤ ls.length) (hm : ls.length ≤ 12) :
    Calls Try.prog 86 #[.agg #[.slice A ls.length k, .slice A' vs.length k'], .int .i64 y] w fun e w' => e = .returned (.bool (onB ls y)) ∧ Below w.heap.size w w' := by
  have HA := Lib.hid hA
  clear hA hA'
  obtain ⟨b, off, rfl, hbl, hcell⟩ := HA.out (by rw [ints_len]; omega)
  have g := hcell 0 (by rw [ints_len]; omega)
  rw [ints_get ls 0 (by omega), Nat.add_zero] at g
  clear hcell
  go_enter Try.func86, Try.ntmps86
  go_wp2
  go_quiet ((first | (go_at_call 91; first | with_reducible exact quiet_eq (last_any _ _ _ _ ((HA.out.alloc _).drewN _) (by omega) (by omega)) | with_reducible exact quiet_add_eq (last_any _ _ _ _ ((HA.out.alloc _).drewN _) (by omega) (by omega))) | (go_at_call 53; first | with_reducible exact quiet_eq (in_any _ _ _ _) | with_reducible exact quiet_add_eq (in_any _ _ _ _))))
  go_wp2
  go_ret
  exact ⟨rfl, by repeat (first | exact Below.refl _ _ | assumption | apply bl_alloc | apply bl_drewN | apply Below.drew | (refine bl_set ?_ (by first | exact Nat.le_refl _ | (simp; done) | (simp; omega)) _) | (refine bl_trans ?_ (by assumption)))⟩
set_option maxHeartbeats 800000 in
theorem l05In_any (w : World) (p : Nat) (A : Option Addr) (k : Nat) (ls : List Int) (y : Int) (hp0 : w.cell? ⟨p, 0, none⟩ = some (.slice A ls.length k)) (hA : RC w A (ints ls)) (h1 : 2 ≤ ls.length) (hm : ls.length ≤ 12) :
    Calls Try.prog 101 #[.pointer (some ⟨p, 0, none⟩), .int .i64 y] w fun e w' => e = .returned (.bool (onB ls y)) ∧ ∃ d, w' = w.drewN d := by
  obtain ⟨b, off, rfl, hbl, hcell⟩ := hA (by rw [ints_len]; omega)
  have g := hcell 0 (by rw [ints_len]; omega)
  have g2 := hcell (ls.length - 1) (by rw [ints_len]; omega)
  rw [ints_get ls 0 (by omega), Nat.add_zero] at g
  rw [ints_get ls _ (by omega)] at g2
  clear hcell
  go_enter Try.func101, Try.ntmps101
  go_wp2
  go_quiet ((go_at_call 63; first | with_reducible exact quiet_eq (l00In_any _ _ _ _) | with_reducible exact quiet_add_eq (l00In_any _ _ _ _)))
  go_wp2
  go_ret
  exact ⟨rfl, by first | exact ⟨_, rfl⟩ | exact ⟨_, World.drewN_drewN _ _ _⟩⟩
set_option maxHeartbeats 800000 in
theorem l05Code_any (w : World) (p : Nat) (A A' : Option Addr) (k k' : Nat) (ls vs : List Int) (y : Int) (hp0 : w.cell? ⟨p, 0, none⟩ = some (.slice A ls.length k)) (hp1 : w.cell? ⟨p, 1, none⟩ = some (.slice A' vs.length k')) (hpl : p < w.heap.size) (hA : RC w A (ints ls)) (hA' : RC w A' (ints vs)) (hm : ls.length ≤ 1048576) (hm' : vs.length ≤ 1048576) :
    Calls Try.prog 83 #[.pointer (some ⟨p, 0, none⟩), .int .i64 y] w fun e w' => e = .returned (.int .i64 (atC ls vs y)) ∧ Below w.heap.size w w' := by
  have HA := Lib.hid hA
  have HB := Lib.hid hA'
  clear hA hA'
  cases k0 : curveOk ls vs
  · have H := Lib.hid (at_bad1 (y := y) k0).2
    go_enter Try.func83, Try.ntmps83
    go_wp2_with ((go_at_call 81; refine (l05Ok_any _ p _ _ k k' ls vs hp0 hp1 (HA.out.below (by repeat (first | exact Below.refl _ _ | assumption | apply bl_alloc | apply bl_drewN | apply Below.drew | (refine bl_set ?_ (by first | exact Nat.le_refl _ | (simp; done) | (simp; omega)) _) | (refine bl_trans ?_ (by assumption))))) (HB.out.below (by repeat (first | exact Below.refl _ _ | assumption | apply bl_alloc | apply bl_drewN | apply Below.drew | (refine bl_set ?_ (by first | exact Nat.le_refl _ | (simp; done) | (simp; omega)) _) | (refine bl_trans ?_ (by assumption))))) hm hm').mono ?_; rintro e w1 ⟨rfl, hb1⟩; have j0 := (hb1.cell (p := ⟨p, 0, none⟩) hpl).trans hp0))
    go_ret
    exact ⟨ret_int H.out.symm, by repeat (first | exact Below.refl _ _ | assumption | apply bl_alloc | apply bl_drewN | apply Below.drew | (refine bl_set ?_ (by first | exact Nat.le_refl _ | (simp; done) | (simp; omega)) _) | (refine bl_trans ?_ (by assumption)))⟩
  · have c0 := curveOk_of k0
    have n2 := c0.1
    have n12 := c0.2.1
    clear c0
    cases k1 : onB ls y
    · have H := Lib.hid (at_bad2 k0 k1).2
      go_enter Try.func83, Try.ntmps83
      go_wp2_with (first | (go_at_call 81; refine (l05Ok_any _ p _ _ k k' ls vs hp0 hp1 (HA.out.below (by repeat (first | exact Below.refl _ _ | assumption | apply bl_alloc | apply bl_drewN | apply Below.drew | (refine bl_set ?_ (by first | exact Nat.le_refl _ | (simp; done) | (simp; omega)) _) | (refine bl_trans ?_ (by assumption))))) (HB.out.below (by repeat (first | exact Below.refl _ _ | assumption | apply bl_alloc | apply bl_drewN | apply Below.drew | (refine bl_set ?_ (by first | exact Nat.le_refl _ | (simp; done) | (simp; omega)) _) | (refine bl_trans ?_ (by assumption))))) hm hm').mono ?_; rintro e w1 ⟨rfl, hb1⟩; have j0 := (hb1.cell (p := ⟨p, 0, none⟩) hpl).trans hp0) | (go_at_call 101; refine (l05In_any _ p _ k ls y j0 (HA.out.below (by repeat (first | exact Below.refl _ _ | assumption | apply bl_alloc | apply bl_drewN | apply Below.drew | (refine bl_set ?_ (by first | exact Nat.le_refl _ | (simp; done) | (simp; omega)) _) | (refine bl_trans ?_ (by assumption))))) n2 n12).mono ?_; rintro e w' ⟨rfl, dd, rfl⟩))
      go_ret
      exact ⟨ret_int H.out.symm, by repeat (first | exact Below.refl _ _ | assumption | apply bl_alloc | apply bl_drewN | apply Below.drew | (refine bl_set ?_ (by first | exact Nat.le_refl _ | (simp; done) | (simp; omega)) _) | (refine bl_trans ?_ (by assumption)))⟩
    · have H := Lib.hid (at_ok k0 k1).2
      go_enter Try.func83, Try.ntmps83
      go_wp2_with (first | (go_at_call 81; refine (l05Ok_any _ p _ _ k k' ls vs hp0 hp1 (HA.out.below (by repeat (first | exact Below.refl _ _ | assumption | apply bl_alloc | apply bl_drewN | apply Below.drew | (refine bl_set ?_ (by first | exact Nat.le_refl _ | (simp; done) | (simp; omega)) _) | (refine bl_trans ?_ (by assumption))))) (HB.out.below (by repeat (first | exact Below.refl _ _ | assumption | apply bl_alloc | apply bl_drewN | apply Below.drew | (refine bl_set ?_ (by first | exact Nat.le_refl _ | (simp; done) | (simp; omega)) _) | (refine bl_trans ?_ (by assumption))))) hm hm').mono ?_; rintro e w1 ⟨rfl, hb1⟩; have j0 := (hb1.cell (p := ⟨p, 0, none⟩) hpl).trans hp0) | (go_at_call 101; refine (l05In_any _ p _ k ls y j0 (HA.out.below (by repeat (first | exact Below.refl _ _ | assumption | apply bl_alloc | apply bl_drewN | apply Below.drew | (refine bl_set ?_ (by first | exact Nat.le_refl _ | (simp; done) | (simp; omega)) _) | (refine bl_trans ?_ (by assumption))))) n2 n12).mono ?_; rintro e w' ⟨rfl, dd, rfl⟩))
      go_ret
      exact ⟨ret_int H.out.symm, by repeat (first | exact Below.refl _ _ | assumption | apply bl_alloc | apply bl_drewN | apply Below.drew | (refine bl_set ?_ (by first | exact Nat.le_refl _ | (simp; done) | (simp; omega)) _) | (refine bl_trans ?_ (by assumption)))⟩
end Go.Proofs.Ytnhdhjijdcdilaa
