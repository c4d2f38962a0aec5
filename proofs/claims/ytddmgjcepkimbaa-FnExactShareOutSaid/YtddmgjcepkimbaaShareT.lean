/-
  Contract on sharing out: the reference's, whole. It holds for every total and every list of at most 1048576 weights.
-/
import Derived.Test.YtddmgjcepkimbaaShareS
namespace Go.Proofs.Ytddmgjcepkimbaa
set_option linter.unusedVariables false
set_option linter.unusedSimpArgs false
open Go.RowKit

set_option maxHeartbeats 1600000 in
theorem specShareOut (w : World) (T : Int) (A : Option Addr) (c : Nat) (ws : List Int) (hA : RC w A (ints ws)) (hm : ws.length ≤ 1048576) :
    Calls Try.prog 4 #[.int .i64 T, .slice A ws.length c] w (NewIntsC (shR T ws) (shC T ws) w) := by
  have HA := Lib.hid hA
  clear hA
  go_enter Try.func4, Try.ntmps4
  go_wp2
  go_loopg [6, 7] ws.length (fun gm v6 v7 wr => ∃ k, k ≤ ws.length ∧ gm = ws.length - k ∧ v6 = .int .i64 (sumTo ws k) ∧ v7 = .int .i64 (k : Int) ∧ Hid (allTo sharedB ws k = true) ∧ 0 ≤ sumTo ws k ∧ sumTo ws k ≤ 1000000000 ∧ wr = w)
  case atStart => exact ⟨0, Nat.zero_le _, rfl, rfl, rfl, Lib.hid rfl, Int.le_refl _, by simp [sumTo], rfl⟩
  case round =>
    obtain ⟨k, hk, hgk, rfl, rfl, HT, s0, s1, rfl⟩ := hrel
    have HGK := Lib.hid hgk
    clear hgk
    by_cases hlt : k < ws.length
    · obtain ⟨b, off, rfl, hbl, hcell⟩ := HA.out (by rw [ints_len]; omega)
      have gx := hcell k (by rw [ints_len]; exact hlt)
      rw [ints_get ws k hlt] at gx
      clear hcell
      obtain ⟨X, hX⟩ : ∃ X, gt ws k = X := ⟨_, rfl⟩
      rw [hX] at gx
      cases hp : inR X 0 1000000000
      · have H := Lib.hid (sh_bad (T := T) (sh_1 (allTo_no hlt (show sharedB (gt ws k) = false by rw [hX]; exact hp))))
        go_wp2_with ((go_at_call 10; refine (l00In_any _ _ _ _).mono ?_; rintro e w' ⟨rfl, rfl⟩))
        go_ret2
        rw [H.out.1, H.out.2]
        exact newC_nil _ _ _ _ (by repeat (first | exact Below.refl _ _ | assumption | apply bl_alloc | apply bl_drewN | apply Below.drew | (refine bl_set ?_ (by first | exact Nat.le_refl _ | (simp; done) | (simp; omega)) _) | (refine bl_trans ?_ (by assumption))))
      · have hb := inR_of hp
        have hS : sumTo ws (k + 1) = sumTo ws k + X := by rw [sumTo, hX]
        have HS := Lib.hid hS
        have HY := Lib.hid (allTo_yes HT.out (show sharedB (gt ws k) = true by rw [hX]; exact hp))
        have qw := IntWalk.i64_in (sumTo ws k + X) (by omega)
        by_cases h9 : 1000000000 < sumTo ws k + X
        · have H := Lib.hid (sh_bad (T := T) (sh_over (ws := ws) (k := k + 1) (by omega) (by omega)))
          clear hS hX
          go_wp2_with ((go_at_call 10; refine (l00In_any _ _ _ _).mono ?_; rintro e w' ⟨rfl, rfl⟩))
          go_ret2
          rw [H.out.1, H.out.2]
          exact newC_nil _ _ _ _ (by repeat (first | exact Below.refl _ _ | assumption | apply bl_alloc | apply bl_drewN | apply Below.drew | (refine bl_set ?_ (by first | exact Nat.le_refl _ | (simp; done) | (simp; omega)) _) | (refine bl_trans ?_ (by assumption))))
        · clear hS hX
          go_wp2_with ((go_at_call 10; refine (l00In_any _ _ _ _).mono ?_; rintro e w' ⟨rfl, rfl⟩))
          go_roundg (ws.length - (k + 1))
          case measure => rw [HGK.out]; omega
          case rel => exact ⟨k + 1, by omega, rfl, by rw [HS.out], by go_num, HY, by rw [HS.out]; omega, by rw [HS.out]; omega, rfl⟩
    · obtain rfl : k = ws.length := by omega
      by_cases k2 : (60 : Int) < (ws.length : Int)
      · have H := Lib.hid (sh_bad (T := T) (sh_2 (ws := ws) (by omega)))
        go_wp2_with ((go_at_call 10; refine (l00In_any _ _ _ _).mono ?_; rintro e w' ⟨rfl, rfl⟩))
        go_ret2
        rw [H.out.1, H.out.2]
        exact newC_nil _ _ _ _ (by repeat (first | exact Below.refl _ _ | assumption | apply bl_alloc | apply bl_drewN | apply Below.drew | (refine bl_set ?_ (by first | exact Nat.le_refl _ | (simp; done) | (simp; omega)) _) | (refine bl_trans ?_ (by assumption))))
      cases k4 : inR T 0 1000000000
      · have H := Lib.hid (sh_bad (sh_4 (ws := ws) (show sharedB T = false from k4)))
        go_wp2_with ((go_at_call 10; refine (l00In_any _ _ _ _).mono ?_; rintro e w' ⟨rfl, rfl⟩))
        go_ret2
        rw [H.out.1, H.out.2]
        exact newC_nil _ _ _ _ (by repeat (first | exact Below.refl _ _ | assumption | apply bl_alloc | apply bl_drewN | apply Below.drew | (refine bl_set ?_ (by first | exact Nat.le_refl _ | (simp; done) | (simp; omega)) _) | (refine bl_trans ?_ (by assumption))))
      have hin := sh_in HT.out
      have HK := Lib.hid (sh_5 HT.out (by omega) (inR_yes s0 s1) (show sharedB T = true from k4))
      by_cases k5 : sumTo ws ws.length = 0
      · have H := Lib.hid (sh_zero HK.out k5)
        have hq : (sumTo ws ws.length == 0) = true := by simpa using k5
        clear k5 hin
        go_wp2_with ((go_at_call 10; refine (l00In_any _ _ _ _).mono ?_; rintro e w' ⟨rfl, rfl⟩))
        go_ret2
        rw [H.out.1, H.out.2]
        exact newC_nil _ _ _ _ (by repeat (first | exact Below.refl _ _ | assumption | apply bl_alloc | apply bl_drewN | apply Below.drew | (refine bl_set ?_ (by first | exact Nat.le_refl _ | (simp; done) | (simp; omega)) _) | (refine bl_trans ?_ (by assumption))))
      · have H := Lib.hid (sh_yes HK.out k5)
        have hq : (sumTo ws ws.length == 0) = false := by simpa using k5
        have h1 : 1 ≤ ws.length := by
          rcases Nat.eq_zero_or_pos ws.length with h | h
          · exact absurd (by rw [h]; rfl) k5
          · exact h
        have HSH := Lib.hid (fun (W : World) (hW : RC W A (ints ws)) => l02Share_any W A c ws T (sumTo ws ws.length) hW h1 (by omega) (inR_of k4) (by omega) s1 (fun k hk => ⟨(hin k hk).1, gt_le_sum hin hk⟩) rfl)
        clear k5 hin h1
        go_wp2_with (first | (go_at_call 10; refine (l00In_any _ _ _ _).mono ?_; rintro e w' ⟨rfl, rfl⟩) | (go_at_call 11; refine (HSH.out _ (HA.out.below (by repeat (first | exact Below.refl _ _ | assumption | apply bl_alloc | apply bl_drewN | apply Below.drew | (refine bl_set ?_ (by first | exact Nat.le_refl _ | (simp; done) | (simp; omega)) _) | (refine bl_trans ?_ (by assumption)))))).mono ?_; rintro e w1 ⟨A1, c1, rfl, ho, hb⟩))
        go_ret2
        rw [H.out.1, H.out.2]
        exact newC_of ho (by repeat (first | exact Below.refl _ _ | assumption | apply bl_alloc | apply bl_drewN | apply Below.drew | (refine bl_set ?_ (by first | exact Nat.le_refl _ | (simp; done) | (simp; omega)) _) | (refine bl_trans ?_ (by assumption)))) hb
end Go.Proofs.Ytddmgjcepkimbaa
