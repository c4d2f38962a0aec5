/-
  Contracts of the program's and the reference's small functions: range tests, sums, greatest common divisors, fractions. Each holds for every argument within the bounds that it names.
-/
import Derived.Test.YtcgnnlgakfndaaaRows
import Derived.Test.YtcgnnlgakfndaaaPlain
import Derived.Deep.QuietTactic
import Derived.BigQuiet
import Derived.RegionTactic
import Derived.Deep.RegionWith
import Derived.ChangeAlike
namespace Go.Proofs.Ytcgnnlgakfndaaa
set_option linter.unusedVariables false
open Go.RowKit

theorem in_any (n lo hi : Int) (w : World) : Calls Try.prog 45 #[.int .i64 n, .int .i64 lo, .int .i64 hi] w fun e w' => e = .returned (.bool (inR n lo hi)) ∧ w = w' := by
  by_cases h1 : lo ≤ n
  · by_cases h2 : n ≤ hi
    · have H := Lib.hid (inR_yes h1 h2)
      go_enter Try.func45, Try.ntmps45
      go_wp2
      go_ret
      exact ⟨ret_bool H.out.symm, rfl⟩
    · have H := Lib.hid (inR_hi (lo := lo) h2)
      go_enter Try.func45, Try.ntmps45
      go_wp2
      go_ret
      exact ⟨ret_bool H.out.symm, rfl⟩
  · have H := Lib.hid (inR_lo (hi := hi) h1)
    go_enter Try.func45, Try.ntmps45
    go_wp2
    go_ret
    exact ⟨ret_bool H.out.symm, rfl⟩
theorem l00In_any (n lo hi : Int) (w : World) : Calls Try.prog 40 #[.int .i64 n, .int .i64 lo, .int .i64 hi] w fun e w' => e = .returned (.bool (inR n lo hi)) ∧ w = w' := by
  by_cases h1 : lo ≤ n
  · by_cases h2 : n ≤ hi
    · have H := Lib.hid (inR_yes h1 h2)
      go_enter Try.func40, Try.ntmps40
      go_wp2
      go_ret
      exact ⟨ret_bool H.out.symm, rfl⟩
    · have H := Lib.hid (inR_hi (lo := lo) h2)
      go_enter Try.func40, Try.ntmps40
      go_wp2
      go_ret
      exact ⟨ret_bool H.out.symm, rfl⟩
  · have H := Lib.hid (inR_lo (hi := hi) h1)
    go_enter Try.func40, Try.ntmps40
    go_wp2
    go_ret
    exact ⟨ret_bool H.out.symm, rfl⟩
theorem validLevel_any (n : Int) (w : World) : Calls Try.prog 44 #[.int .i64 n] w fun e w' => e = .returned (.bool (lvl n)) ∧ w = w' := by
  go_enter Try.func44, Try.ntmps44
  go_wp2_with (go_at_call 45; refine (in_any _ _ _ _).mono ?_; rintro e w' ⟨rfl, rfl⟩)
  go_ret
  exact ⟨rfl, rfl⟩
theorem l02Level_any (n : Int) (w : World) : Calls Try.prog 39 #[.int .i64 n] w fun e w' => e = .returned (.bool (lvl n)) ∧ w = w' := by
  go_enter Try.func39, Try.ntmps39
  go_wp2_with (go_at_call 40; refine (l00In_any _ _ _ _).mono ?_; rintro e w' ⟨rfl, rfl⟩)
  go_ret
  exact ⟨rfl, rfl⟩
theorem isRain_any (n : Int) (w : World) : Calls Try.prog 67 #[.int .i64 n] w fun e w' => e = .returned (.bool (rainB n)) ∧ w = w' := by
  go_enter Try.func67, Try.ntmps67
  go_wp2_with (go_at_call 45; refine (in_any _ _ _ _).mono ?_; rintro e w' ⟨rfl, rfl⟩)
  go_ret
  exact ⟨rfl, rfl⟩
theorem l06One_any (n : Int) (w : World) : Calls Try.prog 64 #[.int .i64 n] w fun e w' => e = .returned (.bool (rainB n)) ∧ w = w' := by
  go_enter Try.func64, Try.ntmps64
  go_wp2_with (go_at_call 40; refine (l00In_any _ _ _ _).mono ?_; rintro e w' ⟨rfl, rfl⟩)
  go_ret
  exact ⟨rfl, rfl⟩
theorem l00Max_any (a b : Int) (w : World) : Calls Try.prog 34 #[.int .i64 a, .int .i64 b] w fun e w' => e = .returned (.int .i64 (mx a b)) ∧ w = w' := by
  by_cases h : b < a
  · have H := Lib.hid (mx_gt h)
    go_enter Try.func34, Try.ntmps34
    go_wp2
    go_ret
    exact ⟨ret_int H.out.symm, rfl⟩
  · have H := Lib.hid (mx_le h)
    go_enter Try.func34, Try.ntmps34
    go_wp2
    go_ret
    exact ⟨ret_int H.out.symm, rfl⟩
theorem l00Min_any (a b : Int) (w : World) : Calls Try.prog 48 #[.int .i64 a, .int .i64 b] w fun e w' => e = .returned (.int .i64 (mn a b)) ∧ w = w' := by
  by_cases h : a < b
  · have H := Lib.hid (mn_lt h)
    go_enter Try.func48, Try.ntmps48
    go_wp2
    go_ret
    exact ⟨ret_int H.out.symm, rfl⟩
  · have H := Lib.hid (mn_ge h)
    go_enter Try.func48, Try.ntmps48
    go_wp2
    go_ret
    exact ⟨ret_int H.out.symm, rfl⟩
set_option maxHeartbeats 400000 in
theorem allRain (w : World) (A : Option Addr) (c : Nat) (zs : List Int) (hA : RC w A (ints zs)) (hm : zs.length ≤ 1048576) :
    Calls Try.prog 66 #[.slice A zs.length c, .func (.func 67) #[] #[]] w fun e w' => e = .returned (.bool (allTo rainB zs zs.length)) ∧ w = w' := by
  have HA := Lib.hid hA
  clear hA
  go_enter Try.func66, Try.ntmps66
  go_wp2
  go_loopg [9] zs.length (fun m i wr => ∃ k, k ≤ zs.length ∧ m = zs.length - k ∧ i = .int .i64 (k : Int) ∧ Hid (allTo rainB zs k = true) ∧ wr = w)
  case atStart => exact ⟨0, Nat.zero_le _, by omega, rfl, Lib.hid rfl, rfl⟩
  case round =>
    obtain ⟨k, hk, hgk, rfl, HT, rfl⟩ := hrel
    have HGK := Lib.hid hgk
    clear hgk
    by_cases hlt : k < zs.length
    · obtain ⟨b, off, rfl, hbl, hcell⟩ := HA.out (by rw [ints_len]; omega)
      have h1 := hcell k (by rw [ints_len]; exact hlt)
      rw [ints_get zs k hlt] at h1
      clear hcell
      cases hp : rainB (gt zs k)
      · have HN := Lib.hid (allTo_no hlt hp)
        go_wp2_with (go_at_call 67; refine (isRain_any _ _).mono ?_; rintro e w' ⟨rfl, rfl⟩)
        go_ret
        exact ⟨ret_bool HN.out.symm, rfl⟩
      · have HY := Lib.hid (allTo_yes HT.out hp)
        go_wp2_with (go_at_call 67; refine (isRain_any _ _).mono ?_; rintro e w' ⟨rfl, rfl⟩)
        go_roundg (zs.length - (k + 1))
        case measure => rw [HGK.out]; omega
        case rel => exact ⟨k + 1, by omega, rfl, by go_num, HY, rfl⟩
    · obtain rfl : k = zs.length := by omega
      go_wp2
      go_ret
      exact ⟨ret_bool HT.out.symm, rfl⟩
set_option maxHeartbeats 400000 in
theorem allLevel (w : World) (A : Option Addr) (c : Nat) (zs : List Int) (hA : RC w A (ints zs)) (hm : zs.length ≤ 1048576) :
    Calls Try.prog 66 #[.slice A zs.length c, .func (.func 44) #[] #[]] w fun e w' => e = .returned (.bool (allTo lvl zs zs.length)) ∧ w = w' := by
  have HA := Lib.hid hA
  clear hA
  go_enter Try.func66, Try.ntmps66
  go_wp2
  go_loopg [9] zs.length (fun m i wr => ∃ k, k ≤ zs.length ∧ m = zs.length - k ∧ i = .int .i64 (k : Int) ∧ Hid (allTo lvl zs k = true) ∧ wr = w)
  case atStart => exact ⟨0, Nat.zero_le _, by omega, rfl, Lib.hid rfl, rfl⟩
  case round =>
    obtain ⟨k, hk, hgk, rfl, HT, rfl⟩ := hrel
    have HGK := Lib.hid hgk
    clear hgk
    by_cases hlt : k < zs.length
    · obtain ⟨b, off, rfl, hbl, hcell⟩ := HA.out (by rw [ints_len]; omega)
      have h1 := hcell k (by rw [ints_len]; exact hlt)
      rw [ints_get zs k hlt] at h1
      clear hcell
      cases hp : lvl (gt zs k)
      · have HN := Lib.hid (allTo_no hlt hp)
        go_wp2_with (go_at_call 44; refine (validLevel_any _ _).mono ?_; rintro e w' ⟨rfl, rfl⟩)
        go_ret
        exact ⟨ret_bool HN.out.symm, rfl⟩
      · have HY := Lib.hid (allTo_yes HT.out hp)
        go_wp2_with (go_at_call 44; refine (validLevel_any _ _).mono ?_; rintro e w' ⟨rfl, rfl⟩)
        go_roundg (zs.length - (k + 1))
        case measure => rw [HGK.out]; omega
        case rel => exact ⟨k + 1, by omega, rfl, by go_num, HY, rfl⟩
    · obtain rfl : k = zs.length := by omega
      go_wp2
      go_ret
      exact ⟨ret_bool HT.out.symm, rfl⟩
set_option maxHeartbeats 400000 in
theorem l06Ok_any (w : World) (A : Option Addr) (c : Nat) (zs : List Int) (hA : RC w A (ints zs)) (hm : zs.length ≤ 1048576) :
    Calls Try.prog 32 #[.slice A zs.length c] w fun e w' => e = .returned (.bool (rainOk zs)) ∧ w = w' := by
  have HA := Lib.hid hA
  clear hA
  go_enter Try.func32, Try.ntmps32
  go_wp2
  go_loopg [3] zs.length (fun m i wr => ∃ k, k ≤ zs.length ∧ m = zs.length - k ∧ i = .int .i64 (k : Int) ∧ Hid (allTo rainB zs k = true) ∧ wr = w)
  case atStart => exact ⟨0, Nat.zero_le _, by omega, rfl, Lib.hid rfl, rfl⟩
  case round =>
    obtain ⟨k, hk, hgk, rfl, HT, rfl⟩ := hrel
    have HGK := Lib.hid hgk
    clear hgk
    by_cases hlt : k < zs.length
    · obtain ⟨b, off, rfl, hbl, hcell⟩ := HA.out (by rw [ints_len]; omega)
      have h1 := hcell k (by rw [ints_len]; exact hlt)
      rw [ints_get zs k hlt] at h1
      clear hcell
      cases hp : rainB (gt zs k)
      · have HN := Lib.hid (allTo_no hlt hp)
        go_wp2_with (go_at_call 64; refine (l06One_any _ _).mono ?_; rintro e w' ⟨rfl, rfl⟩)
        go_ret
        exact ⟨ret_bool (rainOk_no HN.out).symm, rfl⟩
      · have HY := Lib.hid (allTo_yes HT.out hp)
        go_wp2_with (go_at_call 64; refine (l06One_any _ _).mono ?_; rintro e w' ⟨rfl, rfl⟩)
        go_roundg (zs.length - (k + 1))
        case measure => rw [HGK.out]; omega
        case rel => exact ⟨k + 1, by omega, rfl, by go_num, HY, rfl⟩
    · obtain rfl : k = zs.length := by omega
      have HR := Lib.hid (rainOk_last HT.out)
      go_wp2_with (go_at_call 40; refine (l00In_any _ _ _ _).mono ?_; rintro e w' ⟨rfl, rfl⟩)
      go_ret
      exact ⟨ret_bool HR.out.symm, rfl⟩
theorem implValidRain (w : World) (A : Option Addr) (c : Nat) (zs : List Int) (hA : RC w A (ints zs)) (hm : zs.length ≤ 1048576) :
    Calls Try.prog 35 #[.slice A zs.length c] w fun e w' => e = .returned (.bool (rainOk zs)) ∧ w = w' := by
  have HA := Lib.hid hA
  clear hA
  cases h1 : inR (zs.length : Int) 1 120
  · have H := Lib.hid (rainOk_len h1)
    go_enter Try.func35, Try.ntmps35
    go_wp2_with (first | (go_at_call 45; refine (in_any _ _ _ _).mono ?_; rintro e w' ⟨rfl, rfl⟩) | go_in)
    go_ret
    exact ⟨ret_bool H.out.symm, rfl⟩
  · have H := Lib.hid (rainOk_all h1)
    go_enter Try.func35, Try.ntmps35
    go_wp2_with (first | (go_at_call 45; refine (in_any _ _ _ _).mono ?_; rintro e w' ⟨rfl, rfl⟩) | (go_at_call 66; refine (allRain _ _ _ _ HA.out hm).mono ?_; rintro e w' ⟨rfl, rfl⟩) | go_in)
    go_ret
    exact ⟨ret_bool H.out.symm, rfl⟩
theorem areLevels_any (w : World) (A : Option Addr) (c : Nat) (zs : List Int) (hA : RC w A (ints zs)) (hm : zs.length ≤ 1048576) :
    Calls Try.prog 69 #[.slice A zs.length c] w fun e w' => e = .returned (.bool (allTo lvl zs zs.length)) ∧ w = w' := by
  have HA := Lib.hid hA
  clear hA
  go_enter Try.func69, Try.ntmps69
  go_wp2_with (go_at_call 66; refine (allLevel _ _ _ _ HA.out hm).mono ?_; rintro e w' ⟨rfl, rfl⟩)
  go_ret
  exact ⟨rfl, rfl⟩
end Go.Proofs.Ytcgnnlgakfndaaa
