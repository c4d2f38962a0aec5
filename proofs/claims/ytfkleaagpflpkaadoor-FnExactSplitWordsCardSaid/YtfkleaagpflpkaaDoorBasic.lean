/-
  Contracts of the program's and the reference's small functions: range tests, sums, greatest common divisors, fractions. Each holds for every argument within the bounds that it names.
-/
import Derived.Test.YtfkleaagpflpkaaDoorRows
import Derived.Test.YtfkleaagpflpkaaDoorPlain
import Derived.Deep.QuietTactic
import Derived.BigQuiet
import Derived.RegionTactic
import Derived.Deep.RegionWith
import Derived.ChangeAlike
namespace Go.Proofs.YtfkleaagpflpkaaDoor
set_option linter.unusedVariables false
open Go.RowKit

theorem in_any (n lo hi : Int) (w : World) : Calls Tryd.prog 70 #[.int .i64 n, .int .i64 lo, .int .i64 hi] w fun e w' => e = .returned (.bool (inR n lo hi)) ∧ w = w' := by
  by_cases h1 : lo ≤ n
  · by_cases h2 : n ≤ hi
    · have H := Lib.hid (inR_yes h1 h2)
      go_enter Tryd.func70, Tryd.ntmps70
      go_wp2
      go_ret
      exact ⟨ret_bool H.out.symm, rfl⟩
    · have H := Lib.hid (inR_hi (lo := lo) h2)
      go_enter Tryd.func70, Tryd.ntmps70
      go_wp2
      go_ret
      exact ⟨ret_bool H.out.symm, rfl⟩
  · have H := Lib.hid (inR_lo (hi := hi) h1)
    go_enter Tryd.func70, Tryd.ntmps70
    go_wp2
    go_ret
    exact ⟨ret_bool H.out.symm, rfl⟩
theorem l00In_any (n lo hi : Int) (w : World) : Calls Tryd.prog 67 #[.int .i64 n, .int .i64 lo, .int .i64 hi] w fun e w' => e = .returned (.bool (inR n lo hi)) ∧ w = w' := by
  by_cases h1 : lo ≤ n
  · by_cases h2 : n ≤ hi
    · have H := Lib.hid (inR_yes h1 h2)
      go_enter Tryd.func67, Tryd.ntmps67
      go_wp2
      go_ret
      exact ⟨ret_bool H.out.symm, rfl⟩
    · have H := Lib.hid (inR_hi (lo := lo) h2)
      go_enter Tryd.func67, Tryd.ntmps67
      go_wp2
      go_ret
      exact ⟨ret_bool H.out.symm, rfl⟩
  · have H := Lib.hid (inR_lo (hi := hi) h1)
    go_enter Tryd.func67, Tryd.ntmps67
    go_wp2
    go_ret
    exact ⟨ret_bool H.out.symm, rfl⟩
theorem validLevel_any (n : Int) (w : World) : Calls Tryd.prog 40 #[.int .i64 n] w fun e w' => e = .returned (.bool (lvl n)) ∧ w = w' := by
  go_enter Tryd.func40, Tryd.ntmps40
  go_wp2_with (go_at_call 70; refine (in_any _ _ _ _).mono ?_; rintro e w' ⟨rfl, rfl⟩)
  go_ret
  exact ⟨rfl, rfl⟩
theorem l02Level_any (n : Int) (w : World) : Calls Tryd.prog 38 #[.int .i64 n] w fun e w' => e = .returned (.bool (lvl n)) ∧ w = w' := by
  go_enter Tryd.func38, Tryd.ntmps38
  go_wp2_with (go_at_call 67; refine (l00In_any _ _ _ _).mono ?_; rintro e w' ⟨rfl, rfl⟩)
  go_ret
  exact ⟨rfl, rfl⟩
set_option maxHeartbeats 400000 in
theorem allLevel (w : World) (A : Option Addr) (c : Nat) (zs : List Int) (hA : RC w A (ints zs)) (hm : zs.length ≤ 1048576) :
    Calls Tryd.prog 95 #[.slice A zs.length c, .func (.func 40) #[] #[]] w fun e w' => e = .returned (.bool (allTo lvl zs zs.length)) ∧ w = w' := by
  have HA := Lib.hid hA
  clear hA
  go_enter Tryd.func95, Tryd.ntmps95
  go_wp2
  go_loopg [9] zs.length (fun m i wr => ∃ k, k ≤ zs.length ∧ m = zs.length - k ∧ i = .int .i64 (k : Int) ∧ Hid (allTo lvl zs k = true) ∧ wr = w)
  case atStart => exact ⟨0, Nat.zero_le _, by omega, rfl, Lib.hid rfl, rfl⟩
  case round =>
    obtain ⟨k, hk, hgk, rfl, HT, rfl⟩ := hrel
    have HGK := Lib.hid hgk
    clear hgk
    by_cases hlt : k < zs.length
    · obtain ⟨b, off, rfl, hbl, hcell⟩ := HA.out (by rw [ints_len]; omega)
      have h1 := hcell k (by rw [ints_len]; exact hlt)
      rw [ints_get zs k hlt] at h1
      clear hcell
      cases hp : lvl (gt zs k)
      · have HN := Lib.hid (allTo_no hlt hp)
        go_wp2_with (go_at_call 40; refine (validLevel_any _ _).mono ?_; rintro e w' ⟨rfl, rfl⟩)
        go_ret
        exact ⟨ret_bool HN.out.symm, rfl⟩
      · have HY := Lib.hid (allTo_yes HT.out hp)
        go_wp2_with (go_at_call 40; refine (validLevel_any _ _).mono ?_; rintro e w' ⟨rfl, rfl⟩)
        go_roundg (zs.length - (k + 1))
        case measure => rw [HGK.out]; omega
        case rel => exact ⟨k + 1, by omega, rfl, by go_num, HY, rfl⟩
    · obtain rfl : k = zs.length := by omega
      go_wp2
      go_ret
      exact ⟨ret_bool HT.out.symm, rfl⟩
theorem areLevels_any (w : World) (A : Option Addr) (c : Nat) (zs : List Int) (hA : RC w A (ints zs)) (hm : zs.length ≤ 1048576) :
    Calls Tryd.prog 81 #[.slice A zs.length c] w fun e w' => e = .returned (.bool (allTo lvl zs zs.length)) ∧ w = w' := by
  have HA := Lib.hid hA
  clear hA
  go_enter Tryd.func81, Tryd.ntmps81
  go_wp2_with (go_at_call 95; refine (allLevel _ _ _ _ HA.out hm).mono ?_; rintro e w' ⟨rfl, rfl⟩)
  go_ret
  exact ⟨rfl, rfl⟩
end Go.Proofs.YtfkleaagpflpkaaDoor
