/-
  Contract on sharing out: the program's, whole. It holds for every total and every list of at most 1048576 weights.
-/
import Derived.Test.YtddmgjcepkimbaaShare
import Derived.Test.YtddmgjcepkimbaaShPlain
import Derived.Deep.QuietTactic
namespace Go.Proofs.Ytddmgjcepkimbaa
set_option linter.unusedVariables false
set_option linter.unusedSimpArgs false
open Go.RowKit

set_option maxHeartbeats 1600000 in
theorem implShareOut (w : World) (T : Int) (A : Option Addr) (c : Nat) (ws : List Int) (hA : RC w A (ints ws)) (hm : ws.length ≤ 1048576) :
    Calls Try.prog 6 #[.int .i64 T, .slice A ws.length c] w (NewIntsC (shR T ws) (shC T ws) w) := by
  have HA := Lib.hid hA
  clear hA
  cases k1 : allTo sharedB ws ws.length
  · have H := Lib.hid (sh_bad (T := T) (sh_1 k1))
    go_enter Try.func6, Try.ntmps6
    go_wp2_with ((go_at_call 12; refine (allShared _ _ _ _ (HA.out.below (by repeat (first | exact Below.refl _ _ | assumption | apply bl_alloc | apply bl_drewN | apply Below.drew | (refine bl_set ?_ (by first | exact Nat.le_refl _ | (simp; done) | (simp; omega)) _) | (refine bl_trans ?_ (by assumption))))) hm).mono ?_; rintro e w' ⟨rfl, rfl⟩))
    go_ret2
    rw [H.out.1, H.out.2]
    exact newC_nil _ _ _ _ (by repeat (first | exact Below.refl _ _ | assumption | apply bl_alloc | apply bl_drewN | apply Below.drew | (refine bl_set ?_ (by first | exact Nat.le_refl _ | (simp; done) | (simp; omega)) _) | (refine bl_trans ?_ (by assumption))))
  have HS := Lib.hid (sh_small k1)
  by_cases k2 : (60 : Int) < (ws.length : Int)
  · have H := Lib.hid (sh_bad (T := T) (sh_2 (ws := ws) (by omega)))
    go_enter Try.func6, Try.ntmps6
    go_wp2_with ((go_at_call 12; refine (allShared _ _ _ _ (HA.out.below (by repeat (first | exact Below.refl _ _ | assumption | apply bl_alloc | apply bl_drewN | apply Below.drew | (refine bl_set ?_ (by first | exact Nat.le_refl _ | (simp; done) | (simp; omega)) _) | (refine bl_trans ?_ (by assumption))))) hm).mono ?_; rintro e w' ⟨rfl, rfl⟩))
    go_ret2
    rw [H.out.1, H.out.2]
    exact newC_nil _ _ _ _ (by repeat (first | exact Below.refl _ _ | assumption | apply bl_alloc | apply bl_drewN | apply Below.drew | (refine bl_set ?_ (by first | exact Nat.le_refl _ | (simp; done) | (simp; omega)) _) | (refine bl_trans ?_ (by assumption))))
  cases k3 : sharedB (sumTo ws ws.length)
  · have H := Lib.hid (sh_bad (T := T) (sh_3 k3))
    go_enter Try.func6, Try.ntmps6
    go_wp2_with (first | (go_at_call 12; refine (allShared _ _ _ _ (HA.out.below (by repeat (first | exact Below.refl _ _ | assumption | apply bl_alloc | apply bl_drewN | apply Below.drew | (refine bl_set ?_ (by first | exact Nat.le_refl _ | (simp; done) | (simp; omega)) _) | (refine bl_trans ?_ (by assumption))))) hm).mono ?_; rintro e w' ⟨rfl, rfl⟩) | (go_at_call 14; refine (sum_any _ _ _ _ (HA.out.below (by repeat (first | exact Below.refl _ _ | assumption | apply bl_alloc | apply bl_drewN | apply Below.drew | (refine bl_set ?_ (by first | exact Nat.le_refl _ | (simp; done) | (simp; omega)) _) | (refine bl_trans ?_ (by assumption))))) hm HS.out).mono ?_; rintro e w' ⟨rfl, rfl⟩) | (go_at_call 13; refine (isShared_any _ _).mono ?_; rintro e w' ⟨rfl, rfl⟩))
    go_ret2
    rw [H.out.1, H.out.2]
    exact newC_nil _ _ _ _ (by repeat (first | exact Below.refl _ _ | assumption | apply bl_alloc | apply bl_drewN | apply Below.drew | (refine bl_set ?_ (by first | exact Nat.le_refl _ | (simp; done) | (simp; omega)) _) | (refine bl_trans ?_ (by assumption))))
  cases k4 : sharedB T
  · have H := Lib.hid (sh_bad (sh_4 (ws := ws) k4))
    go_enter Try.func6, Try.ntmps6
    go_wp2_with (first | (go_at_call 12; refine (allShared _ _ _ _ (HA.out.below (by repeat (first | exact Below.refl _ _ | assumption | apply bl_alloc | apply bl_drewN | apply Below.drew | (refine bl_set ?_ (by first | exact Nat.le_refl _ | (simp; done) | (simp; omega)) _) | (refine bl_trans ?_ (by assumption))))) hm).mono ?_; rintro e w' ⟨rfl, rfl⟩) | (go_at_call 14; refine (sum_any _ _ _ _ (HA.out.below (by repeat (first | exact Below.refl _ _ | assumption | apply bl_alloc | apply bl_drewN | apply Below.drew | (refine bl_set ?_ (by first | exact Nat.le_refl _ | (simp; done) | (simp; omega)) _) | (refine bl_trans ?_ (by assumption))))) hm HS.out).mono ?_; rintro e w' ⟨rfl, rfl⟩) | (go_at_call 13; refine (isShared_any _ _).mono ?_; rintro e w' ⟨rfl, rfl⟩))
    go_ret2
    rw [H.out.1, H.out.2]
    exact newC_nil _ _ _ _ (by repeat (first | exact Below.refl _ _ | assumption | apply bl_alloc | apply bl_drewN | apply Below.drew | (refine bl_set ?_ (by first | exact Nat.le_refl _ | (simp; done) | (simp; omega)) _) | (refine bl_trans ?_ (by assumption))))
  have HK := Lib.hid (sh_5 k1 (by omega) k3 k4)
  by_cases k5 : sumTo ws ws.length = 0
  · have H := Lib.hid (sh_zero HK.out k5)
    have hq : (sumTo ws ws.length == 0) = true := by simpa using k5
    clear k5
    go_enter Try.func6, Try.ntmps6
    go_wp2_with (first | (go_at_call 12; refine (allShared _ _ _ _ (HA.out.below (by repeat (first | exact Below.refl _ _ | assumption | apply bl_alloc | apply bl_drewN | apply Below.drew | (refine bl_set ?_ (by first | exact Nat.le_refl _ | (simp; done) | (simp; omega)) _) | (refine bl_trans ?_ (by assumption))))) hm).mono ?_; rintro e w' ⟨rfl, rfl⟩) | (go_at_call 14; refine (sum_any _ _ _ _ (HA.out.below (by repeat (first | exact Below.refl _ _ | assumption | apply bl_alloc | apply bl_drewN | apply Below.drew | (refine bl_set ?_ (by first | exact Nat.le_refl _ | (simp; done) | (simp; omega)) _) | (refine bl_trans ?_ (by assumption))))) hm HS.out).mono ?_; rintro e w' ⟨rfl, rfl⟩) | (go_at_call 13; refine (isShared_any _ _).mono ?_; rintro e w' ⟨rfl, rfl⟩))
    go_ret2
    rw [H.out.1, H.out.2]
    exact newC_nil _ _ _ _ (by repeat (first | exact Below.refl _ _ | assumption | apply bl_alloc | apply bl_drewN | apply Below.drew | (refine bl_set ?_ (by first | exact Nat.le_refl _ | (simp; done) | (simp; omega)) _) | (refine bl_trans ?_ (by assumption))))
  · have H := Lib.hid (sh_yes HK.out k5)
    have hq : (sumTo ws ws.length == 0) = false := by simpa using k5
    have hin := sh_in k1
    have hsp := sum_pos hin (Nat.le_refl ws.length)
    have h1 : 1 ≤ ws.length := by
      rcases Nat.eq_zero_or_pos ws.length with h | h
      · exact absurd (by rw [h]; rfl) k5
      · exact h
    have HSH := Lib.hid (fun (W : World) (hW : RC W A (ints ws)) => shareOut_any W A c ws T (sumTo ws ws.length) hW h1 (by omega) (sharedB_of k4) (by omega) (sharedB_of k3).2 (fun k hk => ⟨(hin k hk).1, gt_le_sum hin hk⟩) rfl)
    clear k5 hin hsp h1
    go_enter Try.func6, Try.ntmps6
    go_wp2_with (first | (go_at_call 12; refine (allShared _ _ _ _ (HA.out.below (by repeat (first | exact Below.refl _ _ | assumption | apply bl_alloc | apply bl_drewN | apply Below.drew | (refine bl_set ?_ (by first | exact Nat.le_refl _ | (simp; done) | (simp; omega)) _) | (refine bl_trans ?_ (by assumption))))) hm).mono ?_; rintro e w' ⟨rfl, rfl⟩) | (go_at_call 14; refine (sum_any _ _ _ _ (HA.out.below (by repeat (first | exact Below.refl _ _ | assumption | apply bl_alloc | apply bl_drewN | apply Below.drew | (refine bl_set ?_ (by first | exact Nat.le_refl _ | (simp; done) | (simp; omega)) _) | (refine bl_trans ?_ (by assumption))))) hm HS.out).mono ?_; rintro e w' ⟨rfl, rfl⟩) | (go_at_call 13; refine (isShared_any _ _).mono ?_; rintro e w' ⟨rfl, rfl⟩) | (go_at_call 15; refine (HSH.out _ (HA.out.below (by repeat (first | exact Below.refl _ _ | assumption | apply bl_alloc | apply bl_drewN | apply Below.drew | (refine bl_set ?_ (by first | exact Nat.le_refl _ | (simp; done) | (simp; omega)) _) | (refine bl_trans ?_ (by assumption)))))).mono ?_; rintro e w1 ⟨A1, c1, rfl, ho, hb⟩))
    go_ret2
    rw [H.out.1, H.out.2]
    exact newC_of ho (by repeat (first | exact Below.refl _ _ | assumption | apply bl_alloc | apply bl_drewN | apply Below.drew | (refine bl_set ?_ (by first | exact Nat.le_refl _ | (simp; done) | (simp; omega)) _) | (refine bl_trans ?_ (by assumption)))) hb
end Go.Proofs.Ytddmgjcepkimbaa
