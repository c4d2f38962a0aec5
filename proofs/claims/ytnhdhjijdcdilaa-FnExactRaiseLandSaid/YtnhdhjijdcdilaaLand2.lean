/-
  Contracts on lands, the second part: heights of cells, cells below a level, volumes, the level for a volume. They hold for every land of at most 1048576 heights.
-/
import Derived.Test.YtnhdhjijdcdilaaLand
namespace Go.Proofs.Ytnhdhjijdcdilaa
set_option linter.unusedVariables false
open Go.RowKit
def CellNo (w : World) (e : Ending) (w' : World) : Prop := ∃ x, e = .returned (.tuple #[.int .i64 x, .bool false]) ∧ Below w.heap.size w w'

set_option maxHeartbeats 800000 in
theorem cell_no (w : World) (r c : Int) (A : Option Addr) (k : Nat) (hs : List Int) (i j : Int) (_hr : 1 ≤ r ∧ r ≤ 12) (_hc : 1 ≤ c ∧ c ≤ 12) (k1 : inR i 0 (r - 1) = false) :
    Calls Try.prog 77 #[.agg #[.int .i64 r, .int .i64 c, .slice A hs.length k], .int .i64 i, .int .i64 j] w (CellNo w) := by
  go_enter Try.func77, Try.ntmps77
  go_wp2
  go_quiet ((go_at_call 53; first | with_reducible exact quiet_eq (in_lit k1 _) | with_reducible exact quiet_add_eq (in_lit k1 _) | with_reducible exact quiet_eq (in_lit k2 _) | with_reducible exact quiet_add_eq (in_lit k2 _)))
  go_wp2
  refine bodyPost_ret (results_tmp2 rfl _ _ _) rfl ?_
  exact ⟨_, rfl, by repeat (first | exact Below.refl _ _ | assumption | apply bl_alloc | apply bl_drewN | apply Below.drew | (refine bl_set ?_ (by first | exact Nat.le_refl _ | (simp; done) | (simp; omega)) _) | (refine bl_trans ?_ (by assumption)))⟩
set_option maxHeartbeats 800000 in
theorem cell_no2 (w : World) (r c : Int) (A : Option Addr) (k : Nat) (hs : List Int) (i j : Int) (hr : 1 ≤ r ∧ r ≤ 12) (hc : 1 ≤ c ∧ c ≤ 12) (k1 : inR i 0 (r - 1) = true) (k2 : inR j 0 (c - 1) = false) :
    Calls Try.prog 77 #[.agg #[.int .i64 r, .int .i64 c, .slice A hs.length k], .int .i64 i, .int .i64 j] w (CellNo w) := by
  go_enter Try.func77, Try.ntmps77
  go_wp2
  go_quiet ((go_at_call 53; first | with_reducible exact quiet_eq (in_lit k1 _) | with_reducible exact quiet_add_eq (in_lit k1 _) | with_reducible exact quiet_eq (in_lit k2 _) | with_reducible exact quiet_add_eq (in_lit k2 _)))
  go_wp2
  refine bodyPost_ret (results_tmp2 rfl _ _ _) rfl ?_
  exact ⟨_, rfl, by repeat (first | exact Below.refl _ _ | assumption | apply bl_alloc | apply bl_drewN | apply Below.drew | (refine bl_set ?_ (by first | exact Nat.le_refl _ | (simp; done) | (simp; omega)) _) | (refine bl_trans ?_ (by assumption)))⟩
set_option maxHeartbeats 800000 in
theorem cell_yes (w : World) (r c : Int) (A : Option Addr) (k : Nat) (hs : List Int) (i j : Int) (hr : 1 ≤ r ∧ r ≤ 12) (hc : 1 ≤ c ∧ c ≤ 12) (k1 : inR i 0 (r - 1) = true) (k2 : inR j 0 (c - 1) = true) :
    Calls Try.prog 77 #[.agg #[.int .i64 r, .int .i64 c, .slice A hs.length k], .int .i64 i, .int .i64 j] w fun e w' => e = .returned (.tuple #[.int .i64 (i * c + j), .bool true]) ∧ Below w.heap.size w w' := by
  have b1 := inR_of k1
  have b2 := inR_of k2
  have b3 := cell_bd (n := (r * c).toNat) b1 b2 (by have := mul_bd hr hc; omega)
  have b4 := mul_bd hr hc
  have b5 : 0 ≤ i * c := Int.mul_nonneg b1.1 (by omega)
  go_enter Try.func77, Try.ntmps77
  go_wp2
  go_quiet ((go_at_call 53; first | with_reducible exact quiet_eq (in_lit k1 _) | with_reducible exact quiet_add_eq (in_lit k1 _) | with_reducible exact quiet_eq (in_lit k2 _) | with_reducible exact quiet_add_eq (in_lit k2 _)))
  go_wp2
  go_ret2
  exact ⟨rfl, by repeat (first | exact Below.refl _ _ | assumption | apply bl_alloc | apply bl_drewN | apply Below.drew | (refine bl_set ?_ (by first | exact Nat.le_refl _ | (simp; done) | (simp; omega)) _) | (refine bl_trans ?_ (by assumption)))⟩
set_option maxHeartbeats 800000 in
theorem l03Level_any (w : World) (p : Nat) (r c : Int) (A : Option Addr) (k : Nat) (hs : List Int) (y : Int) (hp0 : w.cell? ⟨p, 0, none⟩ = some (.int .i64 r)) (hp1 : w.cell? ⟨p, 1, none⟩ = some (.int .i64 c)) (hp2 : w.cell? ⟨p, 2, none⟩ = some (.slice A hs.length k)) (hA : RC w A (ints hs)) (hm : hs.length ≤ 1048576) :
    Calls Try.prog 80 #[.pointer (some ⟨p, 0, none⟩), .int .i64 y] w fun e w' => e = .returned (.int .i64 (levelC r c hs y)) ∧ ∃ d, w' = w.drewN d := by
  have HA := Lib.hid hA
  clear hA
  cases k0 : landOk r c hs
  · skip
    have H := Lib.hid (levelC_1 (y := y) k0)
    go_enter Try.func80, Try.ntmps80
    go_wp2_with (first | (go_at_call 62; refine (l03Ok_any _ _ _ _ _ _ _ hp0 hp1 hp2 (HA.out.below (by repeat (first | exact Below.refl _ _ | assumption | apply bl_alloc | apply bl_drewN | apply Below.drew | (refine bl_set ?_ (by first | exact Nat.le_refl _ | (simp; done) | (simp; omega)) _) | (refine bl_trans ?_ (by assumption))))) hm).mono ?_; rintro e w' ⟨rfl, dd, rfl⟩) | (go_at_call 75; refine (l02Level_any _ _).mono ?_; rintro e w' ⟨rfl, rfl⟩))
    go_ret
    exact ⟨ret_int H.out.symm, _, rfl⟩
  · cases k1 : lvl y
    · skip
      have H := Lib.hid (levelC_2 k0 k1)
      go_enter Try.func80, Try.ntmps80
      go_wp2_with (first | (go_at_call 62; refine (l03Ok_any _ _ _ _ _ _ _ hp0 hp1 hp2 (HA.out.below (by repeat (first | exact Below.refl _ _ | assumption | apply bl_alloc | apply bl_drewN | apply Below.drew | (refine bl_set ?_ (by first | exact Nat.le_refl _ | (simp; done) | (simp; omega)) _) | (refine bl_trans ?_ (by assumption))))) hm).mono ?_; rintro e w' ⟨rfl, dd, rfl⟩) | (go_at_call 75; refine (l02Level_any _ _).mono ?_; rintro e w' ⟨rfl, rfl⟩))
      go_ret
      exact ⟨ret_int H.out.symm, _, rfl⟩
    · skip
      have H := Lib.hid (levelC_0 k0 k1)
      go_enter Try.func80, Try.ntmps80
      go_wp2_with (first | (go_at_call 62; refine (l03Ok_any _ _ _ _ _ _ _ hp0 hp1 hp2 (HA.out.below (by repeat (first | exact Below.refl _ _ | assumption | apply bl_alloc | apply bl_drewN | apply Below.drew | (refine bl_set ?_ (by first | exact Nat.le_refl _ | (simp; done) | (simp; omega)) _) | (refine bl_trans ?_ (by assumption))))) hm).mono ?_; rintro e w' ⟨rfl, dd, rfl⟩) | (go_at_call 75; refine (l02Level_any _ _).mono ?_; rintro e w' ⟨rfl, rfl⟩))
      go_ret
      exact ⟨ret_int H.out.symm, _, rfl⟩
set_option maxHeartbeats 800000 in
theorem l03Cell_any (w : World) (p : Nat) (r c : Int) (A : Option Addr) (k : Nat) (hs : List Int) (i j : Int) (hp0 : w.cell? ⟨p, 0, none⟩ = some (.int .i64 r)) (hp1 : w.cell? ⟨p, 1, none⟩ = some (.int .i64 c)) (hp2 : w.cell? ⟨p, 2, none⟩ = some (.slice A hs.length k)) (hA : RC w A (ints hs)) (hm : hs.length ≤ 1048576) :
    Calls Try.prog 74 #[.pointer (some ⟨p, 0, none⟩), .int .i64 i, .int .i64 j] w fun e w' => e = .returned (.int .i64 (heightC r c hs i j)) ∧ ∃ d, w' = w.drewN d := by
  have HA := Lib.hid hA
  clear hA
  cases k0 : landOk r c hs
  · skip
    have H := Lib.hid ((height_bad1 (i := i) (j := j) k0).2)
    go_enter Try.func74, Try.ntmps74
    go_wp2_with (first | (go_at_call 62; refine (l03Ok_any _ _ _ _ _ _ _ hp0 hp1 hp2 (HA.out.below (by repeat (first | exact Below.refl _ _ | assumption | apply bl_alloc | apply bl_drewN | apply Below.drew | (refine bl_set ?_ (by first | exact Nat.le_refl _ | (simp; done) | (simp; omega)) _) | (refine bl_trans ?_ (by assumption))))) hm).mono ?_; rintro e w' ⟨rfl, dd, rfl⟩) | (go_at_call 63; refine (l00In_any _ _ _ _).mono ?_; rintro e w' ⟨rfl, rfl⟩))
    go_ret
    exact ⟨ret_int H.out.symm, _, rfl⟩
  · have l1 := (landOk_of k0).1
    have l2 := (landOk_of k0).2.1
    cases k1 : inR i 0 (r - 1)
    · skip
      have H := Lib.hid ((height_bad2 (j := j) k0 k1).2)
      go_enter Try.func74, Try.ntmps74
      go_wp2_with (first | (go_at_call 62; refine (l03Ok_any _ _ _ _ _ _ _ hp0 hp1 hp2 (HA.out.below (by repeat (first | exact Below.refl _ _ | assumption | apply bl_alloc | apply bl_drewN | apply Below.drew | (refine bl_set ?_ (by first | exact Nat.le_refl _ | (simp; done) | (simp; omega)) _) | (refine bl_trans ?_ (by assumption))))) hm).mono ?_; rintro e w' ⟨rfl, dd, rfl⟩) | (go_at_call 63; refine (l00In_any _ _ _ _).mono ?_; rintro e w' ⟨rfl, rfl⟩))
      go_ret
      exact ⟨ret_int H.out.symm, _, rfl⟩
    · cases k2 : inR j 0 (c - 1)
      · skip
        have H := Lib.hid ((height_bad3 (i := i) k0 k2).2)
        go_enter Try.func74, Try.ntmps74
        go_wp2_with (first | (go_at_call 62; refine (l03Ok_any _ _ _ _ _ _ _ hp0 hp1 hp2 (HA.out.below (by repeat (first | exact Below.refl _ _ | assumption | apply bl_alloc | apply bl_drewN | apply Below.drew | (refine bl_set ?_ (by first | exact Nat.le_refl _ | (simp; done) | (simp; omega)) _) | (refine bl_trans ?_ (by assumption))))) hm).mono ?_; rintro e w' ⟨rfl, dd, rfl⟩) | (go_at_call 63; refine (l00In_any _ _ _ _).mono ?_; rintro e w' ⟨rfl, rfl⟩))
        go_ret
        exact ⟨ret_int H.out.symm, _, rfl⟩
      · skip
        have H := Lib.hid ((height_ok k0 k1 k2).2)
        go_enter Try.func74, Try.ntmps74
        go_wp2_with (first | (go_at_call 62; refine (l03Ok_any _ _ _ _ _ _ _ hp0 hp1 hp2 (HA.out.below (by repeat (first | exact Below.refl _ _ | assumption | apply bl_alloc | apply bl_drewN | apply Below.drew | (refine bl_set ?_ (by first | exact Nat.le_refl _ | (simp; done) | (simp; omega)) _) | (refine bl_trans ?_ (by assumption))))) hm).mono ?_; rintro e w' ⟨rfl, dd, rfl⟩) | (go_at_call 63; refine (l00In_any _ _ _ _).mono ?_; rintro e w' ⟨rfl, rfl⟩))
        go_ret
        exact ⟨ret_int H.out.symm, _, rfl⟩
end Go.Proofs.Ytnhdhjijdcdilaa
