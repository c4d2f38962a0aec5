/-
  Contracts on curves and lists: equal lists, rising lists, valid curves. They hold for lists of at most 1048576 numbers.
-/
import Derived.Test.YtcjfdfjimcapkaaDoorHelp
import Derived.Test.YtcjfdfjimcapkaaDoorCurvePlain
import Derived.Test.YtcjfdfjimcapkaaDoorBasic
namespace Go.Proofs.YtcjfdfjimcapkaaDoor
set_option linter.unusedVariables false
open Go.RowKit
theorem beqI_no {a b : Int} (h : ¬ a = b) : (a == b) = false := by simpa using h
theorem bneI_yes {a b : Int} (h : ¬ a = b) : (a != b) = true := by simpa using h
theorem bneI_no {a b : Int} (h : a = b) : (a != b) = false := by simpa using h

theorem in_litc {n lo hi : Int} {b : Bool} (h : inR n lo hi = b) (w : World) : Calls Tryd.prog 49 #[.int .i64 n, .int .i64 lo, .int .i64 hi] w fun e w' => e = .returned (.bool b) ∧ w = w' :=
  (in_any n lo hi w).mono fun _ _ ⟨he, hw⟩ => ⟨he.trans (ret_bool h), hw⟩
set_option maxHeartbeats 1600000 in
theorem rises_any (w : World) (A : Option Addr) (c : Nat) (xs : List Int) (lo hi : Int) (hA : RC w A (ints xs)) (hm : xs.length ≤ 1048576) :
    Calls Tryd.prog 50 #[.slice A xs.length c, .int .i64 lo, .int .i64 hi] w fun e w' => e = .returned (.bool (risesB xs lo hi)) ∧ ∃ d, w' = w.drewN d := by
  have HA := Lib.hid hA
  clear hA
  go_enter Tryd.func50, Tryd.ntmps50
  go_wp2
  go_loopg [11] xs.length (fun m i wr => ∃ k, k ≤ xs.length ∧ m = xs.length - k ∧ i = .int .i64 (k : Int) ∧ Hid (allN (riseAt xs lo hi) k = true) ∧ ∃ d, wr = w.drewN d)
  case atStart => exact ⟨0, Nat.zero_le _, by omega, rfl, Lib.hid rfl, 0, rfl⟩
  case round =>
    obtain ⟨k, hk, hgk, rfl, HT, d, rfl⟩ := hrel
    have HGK := Lib.hid hgk
    clear hgk
    by_cases hlt : k < xs.length
    · obtain ⟨b, off, rfl, hbl, hcell⟩ := HA.out (by rw [ints_len]; omega)
      have h1 := hcell k (by rw [ints_len]; exact hlt)
      rw [ints_get xs k hlt] at h1
      cases hin : inR (gt xs k) lo hi
      · have HN := Lib.hid (allN_no hlt (riseAt_out hin))
        clear hcell
        go_wp2_with (go_at_call 49; refine (in_litc hin _).mono ?_; rintro e w' ⟨rfl, rfl⟩)
        go_ret
        exact ⟨ret_bool HN.out.symm, by first | exact ⟨_, rfl⟩ | exact ⟨_, World.drewN_drewN _ _ _⟩⟩
      · by_cases hk0 : k ≤ 0
        · have HY := Lib.hid (allN_yes HT.out (riseAt_zero hin hk0))
          have hd : decide ((0 : Int) < (k : Int)) = false := by simp; omega
          have hd2 : decide (0 < k) = false := by simp; omega
          clear hcell hk0
          go_wp2_with (go_at_call 49; refine (in_litc hin _).mono ?_; rintro e w' ⟨rfl, rfl⟩)
          go_roundg (xs.length - (k + 1))
          case measure => rw [HGK.out]; omega
          case rel => exact ⟨k + 1, by omega, rfl, by go_num, HY, by first | exact ⟨_, rfl⟩ | exact ⟨_, World.drewN_drewN _ _ _⟩⟩
        · obtain ⟨j, rfl⟩ : ∃ j, k = j + 1 := ⟨k - 1, by omega⟩
          have h2 := hcell j (by rw [ints_len]; omega)
          rw [ints_get xs j (by omega)] at h2
          have hpos : (0 : Int) < (j : Int) + 1 := by omega
          clear hcell hk0
          by_cases hu : gt xs j < gt xs (j + 1)
          · have HY := Lib.hid (allN_yes HT.out (riseAt_up hin hu))
            go_wp2_with (go_at_call 49; refine (in_litc hin _).mono ?_; rintro e w' ⟨rfl, rfl⟩)
            go_roundg (xs.length - (j + 1 + 1))
            case measure => rw [HGK.out]; omega
            case rel => exact ⟨j + 1 + 1, by omega, rfl, by go_num, HY, by first | exact ⟨_, rfl⟩ | exact ⟨_, World.drewN_drewN _ _ _⟩⟩
          · have HN := Lib.hid (allN_no hlt (riseAt_not (lo := lo) (hi := hi) hu))
            go_wp2_with (go_at_call 49; refine (in_litc hin _).mono ?_; rintro e w' ⟨rfl, rfl⟩)
            go_ret
            exact ⟨ret_bool HN.out.symm, by first | exact ⟨_, rfl⟩ | exact ⟨_, World.drewN_drewN _ _ _⟩⟩
    · obtain rfl : k = xs.length := by omega
      have HY := Lib.hid (show risesB xs lo hi = true from HT.out)
      go_wp2
      go_ret
      exact ⟨ret_bool HY.out.symm, _, rfl⟩
theorem l00In_litc {n lo hi : Int} {b : Bool} (h : inR n lo hi = b) (w : World) : Calls Tryd.prog 44 #[.int .i64 n, .int .i64 lo, .int .i64 hi] w fun e w' => e = .returned (.bool b) ∧ w = w' :=
  (l00In_any n lo hi w).mono fun _ _ ⟨he, hw⟩ => ⟨he.trans (ret_bool h), hw⟩
set_option maxHeartbeats 1600000 in
theorem l00Rises_any (w : World) (A : Option Addr) (c : Nat) (xs : List Int) (lo hi : Int) (hA : RC w A (ints xs)) (hm : xs.length ≤ 1048576) :
    Calls Tryd.prog 45 #[.slice A xs.length c, .int .i64 lo, .int .i64 hi] w fun e w' => e = .returned (.bool (risesB xs lo hi)) ∧ ∃ d, w' = w.drewN d := by
  have HA := Lib.hid hA
  clear hA
  go_enter Tryd.func45, Tryd.ntmps45
  go_wp2
  go_loopg [7] xs.length (fun m i wr => ∃ k, k ≤ xs.length ∧ m = xs.length - k ∧ i = .int .i64 (k : Int) ∧ Hid (allN (riseAt xs lo hi) k = true) ∧ ∃ d, wr = w.drewN d)
  case atStart => exact ⟨0, Nat.zero_le _, by omega, rfl, Lib.hid rfl, 0, rfl⟩
  case round =>
    obtain ⟨k, hk, hgk, rfl, HT, d, rfl⟩ := hrel
    have HGK := Lib.hid hgk
    clear hgk
    by_cases hlt : k < xs.length
    · obtain ⟨b, off, rfl, hbl, hcell⟩ := HA.out (by rw [ints_len]; omega)
      have h1 := hcell k (by rw [ints_len]; exact hlt)
      rw [ints_get xs k hlt] at h1
      cases hin : inR (gt xs k) lo hi
      · have HN := Lib.hid (allN_no hlt (riseAt_out hin))
        clear hcell
        go_wp2
        go_quiet ((go_at_call 44; first | with_reducible exact quiet_add_eq (l00In_litc hin _) | with_reducible exact quiet_eq (l00In_litc hin _)))
        go_wp2
        go_ret
        exact ⟨ret_bool HN.out.symm, by first | exact ⟨_, rfl⟩ | exact ⟨_, World.drewN_drewN _ _ _⟩⟩
      · by_cases hk0 : k ≤ 0
        · have HY := Lib.hid (allN_yes HT.out (riseAt_zero hin hk0))
          have hd : decide ((0 : Int) < (k : Int)) = false := by simp; omega
          have hd2 : decide (0 < k) = false := by simp; omega
          clear hcell hk0
          go_wp2
          go_quiet ((go_at_call 44; first | with_reducible exact quiet_add_eq (l00In_litc hin _) | with_reducible exact quiet_eq (l00In_litc hin _)))
          go_wp2
          go_roundg (xs.length - (k + 1))
          case measure => rw [HGK.out]; omega
          case rel => exact ⟨k + 1, by omega, rfl, by go_num, HY, by first | exact ⟨_, rfl⟩ | exact ⟨_, World.drewN_drewN _ _ _⟩⟩
        · obtain ⟨j, rfl⟩ : ∃ j, k = j + 1 := ⟨k - 1, by omega⟩
          have h2 := hcell j (by rw [ints_len]; omega)
          rw [ints_get xs j (by omega)] at h2
          have hpos : (0 : Int) < (j : Int) + 1 := by omega
          clear hcell hk0
          by_cases hu : gt xs j < gt xs (j + 1)
          · have HY := Lib.hid (allN_yes HT.out (riseAt_up hin hu))
            go_wp2
            go_quiet ((go_at_call 44; first | with_reducible exact quiet_add_eq (l00In_litc hin _) | with_reducible exact quiet_eq (l00In_litc hin _)))
            go_wp2
            go_roundg (xs.length - (j + 1 + 1))
            case measure => rw [HGK.out]; omega
            case rel => exact ⟨j + 1 + 1, by omega, rfl, by go_num, HY, by first | exact ⟨_, rfl⟩ | exact ⟨_, World.drewN_drewN _ _ _⟩⟩
          · have HN := Lib.hid (allN_no hlt (riseAt_not (lo := lo) (hi := hi) hu))
            go_wp2
            go_quiet ((go_at_call 44; first | with_reducible exact quiet_add_eq (l00In_litc hin _) | with_reducible exact quiet_eq (l00In_litc hin _)))
            go_wp2
            go_ret
            exact ⟨ret_bool HN.out.symm, by first | exact ⟨_, rfl⟩ | exact ⟨_, World.drewN_drewN _ _ _⟩⟩
    · obtain rfl : k = xs.length := by omega
      have HY := Lib.hid (show risesB xs lo hi = true from HT.out)
      go_wp2
      go_ret
      exact ⟨ret_bool HY.out.symm, _, rfl⟩
end Go.Proofs.YtcjfdfjimcapkaaDoor
