/-
  Contracts of the program's and the reference's small functions: range tests, sums, greatest common divisors, fractions. Each holds for every argument within the bounds that it names.
-/
import Derived.Test.YtfkleaagpflpkaaRows
import Derived.Test.YtfkleaagpflpkaaPlain
import Derived.Deep.QuietTactic
import Derived.BigQuiet
import Derived.RegionTactic
import Derived.Deep.RegionWith
import Derived.ChangeAlike
namespace Go.Proofs.Ytfkleaagpflpkaa
set_option linter.unusedVariables false
open Go.RowKit

theorem in_any (n lo hi : Int) (w : World) : Calls Try.prog 23 #[.int .i64 n, .int .i64 lo, .int .i64 hi] w fun e w' => e = .returned (.bool (inR n lo hi)) ∧ w = w' := by
  by_cases h1 : lo ≤ n
  · by_cases h2 : n ≤ hi
    · have H := Lib.hid (inR_yes h1 h2)
      go_enter Try.func23, Try.ntmps23
      go_wp2
      go_ret
      exact ⟨ret_bool H.out.symm, rfl⟩
    · have H := Lib.hid (inR_hi (lo := lo) h2)
      go_enter Try.func23, Try.ntmps23
      go_wp2
      go_ret
      exact ⟨ret_bool H.out.symm, rfl⟩
  · have H := Lib.hid (inR_lo (hi := hi) h1)
    go_enter Try.func23, Try.ntmps23
    go_wp2
    go_ret
    exact ⟨ret_bool H.out.symm, rfl⟩
theorem l00In_any (n lo hi : Int) (w : World) : Calls Try.prog 21 #[.int .i64 n, .int .i64 lo, .int .i64 hi] w fun e w' => e = .returned (.bool (inR n lo hi)) ∧ w = w' := by
  by_cases h1 : lo ≤ n
  · by_cases h2 : n ≤ hi
    · have H := Lib.hid (inR_yes h1 h2)
      go_enter Try.func21, Try.ntmps21
      go_wp2
      go_ret
      exact ⟨ret_bool H.out.symm, rfl⟩
    · have H := Lib.hid (inR_hi (lo := lo) h2)
      go_enter Try.func21, Try.ntmps21
      go_wp2
      go_ret
      exact ⟨ret_bool H.out.symm, rfl⟩
  · have H := Lib.hid (inR_lo (hi := hi) h1)
    go_enter Try.func21, Try.ntmps21
    go_wp2
    go_ret
    exact ⟨ret_bool H.out.symm, rfl⟩
theorem validLevel_any (n : Int) (w : World) : Calls Try.prog 42 #[.int .i64 n] w fun e w' => e = .returned (.bool (lvl n)) ∧ w = w' := by
  go_enter Try.func42, Try.ntmps42
  go_wp2_with (go_at_call 23; refine (in_any _ _ _ _).mono ?_; rintro e w' ⟨rfl, rfl⟩)
  go_ret
  exact ⟨rfl, rfl⟩
theorem l02Level_any (n : Int) (w : World) : Calls Try.prog 38 #[.int .i64 n] w fun e w' => e = .returned (.bool (lvl n)) ∧ w = w' := by
  go_enter Try.func38, Try.ntmps38
  go_wp2_with (go_at_call 21; refine (l00In_any _ _ _ _).mono ?_; rintro e w' ⟨rfl, rfl⟩)
  go_ret
  exact ⟨rfl, rfl⟩
theorem isShared_any (n : Int) (w : World) : Calls Try.prog 30 #[.int .i64 n] w fun e w' => e = .returned (.bool (sharedB n)) ∧ w = w' := by
  go_enter Try.func30, Try.ntmps30
  go_wp2_with (go_at_call 23; refine (in_any _ _ _ _).mono ?_; rintro e w' ⟨rfl, rfl⟩)
  go_ret
  exact ⟨rfl, rfl⟩
set_option maxHeartbeats 400000 in
theorem allLevel (w : World) (A : Option Addr) (c : Nat) (zs : List Int) (hA : RC w A (ints zs)) (hm : zs.length ≤ 1048576) :
    Calls Try.prog 29 #[.slice A zs.length c, .func (.func 42) #[] #[]] w fun e w' => e = .returned (.bool (allTo lvl zs zs.length)) ∧ w = w' := by
  have HA := Lib.hid hA
  clear hA
  go_enter Try.func29, Try.ntmps29
  go_wp2
  go_loopg [9] zs.length (fun m i wr => ∃ k, k ≤ zs.length ∧ m = zs.length - k ∧ i = .int .i64 (k : Int) ∧ Hid (allTo lvl zs k = true) ∧ wr = w)
  case atStart => exact ⟨0, Nat.zero_le _, by omega, rfl, Lib.hid rfl, rfl⟩
  case round =>
    obtain ⟨k, hk, hgk, rfl, HT, rfl⟩ := hrel
    have HGK := Lib.hid hgk
    clear hgk
    by_cases hlt : k < zs.length
    · obtain ⟨b, off, rfl, hbl, hcell⟩ := HA.out (by rw [ints_len]; omega)
      have h1 := hcell k (by rw [ints_len]; exact hlt)
      rw [ints_get zs k hlt] at h1
      clear hcell
      cases hp : lvl (gt zs k)
      · have HN := Lib.hid (allTo_no hlt hp)
        go_wp2_with (go_at_call 42; refine (validLevel_any _ _).mono ?_; rintro e w' ⟨rfl, rfl⟩)
        go_ret
        exact ⟨ret_bool HN.out.symm, rfl⟩
      · have HY := Lib.hid (allTo_yes HT.out hp)
        go_wp2_with (go_at_call 42; refine (validLevel_any _ _).mono ?_; rintro e w' ⟨rfl, rfl⟩)
        go_roundg (zs.length - (k + 1))
        case measure => rw [HGK.out]; omega
        case rel => exact ⟨k + 1, by omega, rfl, by go_num, HY, rfl⟩
    · obtain rfl : k = zs.length := by omega
      go_wp2
      go_ret
      exact ⟨ret_bool HT.out.symm, rfl⟩
set_option maxHeartbeats 400000 in
theorem allShared (w : World) (A : Option Addr) (c : Nat) (zs : List Int) (hA : RC w A (ints zs)) (hm : zs.length ≤ 1048576) :
    Calls Try.prog 29 #[.slice A zs.length c, .func (.func 30) #[] #[]] w fun e w' => e = .returned (.bool (allTo sharedB zs zs.length)) ∧ w = w' := by
  have HA := Lib.hid hA
  clear hA
  go_enter Try.func29, Try.ntmps29
  go_wp2
  go_loopg [9] zs.length (fun m i wr => ∃ k, k ≤ zs.length ∧ m = zs.length - k ∧ i = .int .i64 (k : Int) ∧ Hid (allTo sharedB zs k = true) ∧ wr = w)
  case atStart => exact ⟨0, Nat.zero_le _, by omega, rfl, Lib.hid rfl, rfl⟩
  case round =>
    obtain ⟨k, hk, hgk, rfl, HT, rfl⟩ := hrel
    have HGK := Lib.hid hgk
    clear hgk
    by_cases hlt : k < zs.length
    · obtain ⟨b, off, rfl, hbl, hcell⟩ := HA.out (by rw [ints_len]; omega)
      have h1 := hcell k (by rw [ints_len]; exact hlt)
      rw [ints_get zs k hlt] at h1
      clear hcell
      cases hp : sharedB (gt zs k)
      · have HN := Lib.hid (allTo_no hlt hp)
        go_wp2_with (go_at_call 30; refine (isShared_any _ _).mono ?_; rintro e w' ⟨rfl, rfl⟩)
        go_ret
        exact ⟨ret_bool HN.out.symm, rfl⟩
      · have HY := Lib.hid (allTo_yes HT.out hp)
        go_wp2_with (go_at_call 30; refine (isShared_any _ _).mono ?_; rintro e w' ⟨rfl, rfl⟩)
        go_roundg (zs.length - (k + 1))
        case measure => rw [HGK.out]; omega
        case rel => exact ⟨k + 1, by omega, rfl, by go_num, HY, rfl⟩
    · obtain rfl : k = zs.length := by omega
      go_wp2
      go_ret
      exact ⟨ret_bool HT.out.symm, rfl⟩
set_option maxHeartbeats 400000 in
theorem l02List_any (w : World) (A : Option Addr) (c : Nat) (zs : List Int) (hA : RC w A (ints zs)) (hm : zs.length ≤ 1048576) :
    Calls Try.prog 20 #[.slice A zs.length c] w fun e w' => e = .returned (.int .i64 (lvlCode zs)) ∧ w = w' := by
  have HA := Lib.hid hA
  clear hA
  go_enter Try.func20, Try.ntmps20
  go_wp2
  go_loopg [3] zs.length (fun m i wr => ∃ k, k ≤ zs.length ∧ m = zs.length - k ∧ i = .int .i64 (k : Int) ∧ Hid (allTo lvl zs k = true) ∧ wr = w)
  case atStart => exact ⟨0, Nat.zero_le _, by omega, rfl, Lib.hid rfl, rfl⟩
  case round =>
    obtain ⟨k, hk, hgk, rfl, HT, rfl⟩ := hrel
    have HGK := Lib.hid hgk
    clear hgk
    by_cases hlt : k < zs.length
    · obtain ⟨b, off, rfl, hbl, hcell⟩ := HA.out (by rw [ints_len]; omega)
      have h1 := hcell k (by rw [ints_len]; exact hlt)
      rw [ints_get zs k hlt] at h1
      clear hcell
      cases hp : lvl (gt zs k)
      · have HN := Lib.hid (allTo_no hlt hp)
        go_wp2_with (go_at_call 38; refine (l02Level_any _ _).mono ?_; rintro e w' ⟨rfl, rfl⟩)
        go_ret
        exact ⟨ret_int (lvlCode_no HN.out).symm, rfl⟩
      · have HY := Lib.hid (allTo_yes HT.out hp)
        go_wp2_with (go_at_call 38; refine (l02Level_any _ _).mono ?_; rintro e w' ⟨rfl, rfl⟩)
        go_roundg (zs.length - (k + 1))
        case measure => rw [HGK.out]; omega
        case rel => exact ⟨k + 1, by omega, rfl, by go_num, HY, rfl⟩
    · obtain rfl : k = zs.length := by omega
      by_cases h60 : (60 : Int) < (zs.length : Int)
      · have HR := Lib.hid (lvlCode_long (zs := zs) (by omega))
        go_wp2
        go_ret
        exact ⟨ret_int HR.out.symm, rfl⟩
      · have HR := Lib.hid (lvlCode_ok HT.out (by omega))
        go_wp2
        go_ret
        exact ⟨ret_int HR.out.symm, rfl⟩
theorem areLevels_any (w : World) (A : Option Addr) (c : Nat) (zs : List Int) (hA : RC w A (ints zs)) (hm : zs.length ≤ 1048576) :
    Calls Try.prog 34 #[.slice A zs.length c] w fun e w' => e = .returned (.bool (allTo lvl zs zs.length)) ∧ w = w' := by
  have HA := Lib.hid hA
  clear hA
  go_enter Try.func34, Try.ntmps34
  go_wp2_with (go_at_call 29; refine (allLevel _ _ _ _ HA.out hm).mono ?_; rintro e w' ⟨rfl, rfl⟩)
  go_ret
  exact ⟨rfl, rfl⟩
theorem areGauges_any (w : World) (A : Option Addr) (c : Nat) (zs : List Int) (hA : RC w A (ints zs)) (hm : zs.length ≤ 1048576) :
    Calls Try.prog 18 #[.slice A zs.length c] w fun e w' => e = .returned (.bool (gaugesOk zs)) ∧ w = w' := by
  have HA := Lib.hid hA
  clear hA
  cases h1 : allTo lvl zs zs.length
  · have H := Lib.hid (gaugesOk_no h1)
    go_enter Try.func18, Try.ntmps18
    go_wp2_with (go_at_call 34; refine (areLevels_any _ _ _ _ HA.out hm).mono ?_; rintro e w' ⟨rfl, rfl⟩)
    go_ret
    exact ⟨ret_bool H.out.symm, rfl⟩
  · by_cases h60 : (zs.length : Int) ≤ 60
    · have H := Lib.hid (gaugesOk_yes h1 (by omega))
      have hd : decide ((zs.length : Int) ≤ 60) = true := by simpa using h60
      go_enter Try.func18, Try.ntmps18
      go_wp2_with (go_at_call 34; refine (areLevels_any _ _ _ _ HA.out hm).mono ?_; rintro e w' ⟨rfl, rfl⟩)
      go_ret
      exact ⟨ret_bool H.out.symm, rfl⟩
    · have H := Lib.hid (gaugesOk_long (zs := zs) (by omega))
      have hd : decide ((zs.length : Int) ≤ 60) = false := by simpa using h60
      go_enter Try.func18, Try.ntmps18
      go_wp2_with (go_at_call 34; refine (areLevels_any _ _ _ _ HA.out hm).mono ?_; rintro e w' ⟨rfl, rfl⟩)
      go_ret
      exact ⟨ret_bool H.out.symm, rfl⟩
set_option maxHeartbeats 400000 in
theorem sum_any (w : World) (A : Option Addr) (c : Nat) (zs : List Int) (hA : RC w A (ints zs)) (hm : zs.length ≤ 1048576) (hz : Small zs) :
    Calls Try.prog 31 #[.slice A zs.length c] w fun e w' => e = .returned (.int .i64 (sumTo zs zs.length)) ∧ w = w' := by
  have HA := Lib.hid hA
  clear hA
  go_enter Try.func31, Try.ntmps31
  go_wp2
  go_loopg [3, 8] zs.length (fun m s i wr => ∃ k, k ≤ zs.length ∧ m = zs.length - k ∧ i = .int .i64 (k : Int) ∧ s = .int .i64 (sumTo zs k) ∧ wr = w)
  case atStart => exact ⟨0, Nat.zero_le _, by omega, rfl, rfl, rfl⟩
  case round =>
    obtain ⟨k, hk, hgk, rfl, rfl, rfl⟩ := hrel
    have HGK := Lib.hid hgk
    clear hgk
    by_cases hlt : k < zs.length
    · obtain ⟨b, off, rfl, hbl, hcell⟩ := HA.out (by rw [ints_len]; omega)
      have h1 := hcell k (by rw [ints_len]; exact hlt)
      rw [ints_get zs k hlt] at h1
      clear hcell
      have h2 := sumTo_bd hz k (by omega)
      have h3 := hz k hlt
      go_wp2
      go_roundg (zs.length - (k + 1))
      case measure => rw [HGK.out]; omega
      case rel => exact ⟨k + 1, by omega, rfl, by go_num, rfl, rfl⟩
    · obtain rfl : k = zs.length := by omega
      go_wp2
      go_ret
      exact ⟨rfl, rfl⟩
end Go.Proofs.Ytfkleaagpflpkaa
