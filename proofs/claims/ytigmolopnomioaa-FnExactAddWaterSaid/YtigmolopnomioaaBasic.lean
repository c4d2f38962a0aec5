/-
  Contracts of the program's and the reference's small functions: range tests, sums, greatest common divisors, fractions. Each holds for every argument within the bounds that it names.
-/
import Derived.Test.YtigmolopnomioaaRows
import Derived.Test.YtigmolopnomioaaPlain
import Derived.Deep.QuietTactic
import Derived.BigQuiet
import Derived.RegionTactic
import Derived.Deep.RegionWith
import Derived.ChangeAlike
namespace Go.Proofs.Ytigmolopnomioaa
open Go.RowKit

theorem in_any (n lo hi : Int) (w : World) : Calls Try.prog 41 #[.int .i64 n, .int .i64 lo, .int .i64 hi] w fun e w' => e = .returned (.bool (inR n lo hi)) ∧ w = w' := by
  by_cases h1 : lo ≤ n
  · by_cases h2 : n ≤ hi
    · have H := Lib.hid (inR_yes h1 h2)
      go_enter Try.func41, Try.ntmps41
      go_wp2
      go_ret
      exact ⟨ret_bool H.out.symm, rfl⟩
    · have H := Lib.hid (inR_hi (lo := lo) h2)
      go_enter Try.func41, Try.ntmps41
      go_wp2
      go_ret
      exact ⟨ret_bool H.out.symm, rfl⟩
  · have H := Lib.hid (inR_lo (hi := hi) h1)
    go_enter Try.func41, Try.ntmps41
    go_wp2
    go_ret
    exact ⟨ret_bool H.out.symm, rfl⟩
theorem l00In_any (n lo hi : Int) (w : World) : Calls Try.prog 39 #[.int .i64 n, .int .i64 lo, .int .i64 hi] w fun e w' => e = .returned (.bool (inR n lo hi)) ∧ w = w' := by
  by_cases h1 : lo ≤ n
  · by_cases h2 : n ≤ hi
    · have H := Lib.hid (inR_yes h1 h2)
      go_enter Try.func39, Try.ntmps39
      go_wp2
      go_ret
      exact ⟨ret_bool H.out.symm, rfl⟩
    · have H := Lib.hid (inR_hi (lo := lo) h2)
      go_enter Try.func39, Try.ntmps39
      go_wp2
      go_ret
      exact ⟨ret_bool H.out.symm, rfl⟩
  · have H := Lib.hid (inR_lo (hi := hi) h1)
    go_enter Try.func39, Try.ntmps39
    go_wp2
    go_ret
    exact ⟨ret_bool H.out.symm, rfl⟩
theorem l00Max_any (a b : Int) (w : World) : Calls Try.prog 49 #[.int .i64 a, .int .i64 b] w fun e w' => e = .returned (.int .i64 (mx a b)) ∧ w = w' := by
  by_cases h : b < a
  · have H := Lib.hid (mx_gt h)
    go_enter Try.func49, Try.ntmps49
    go_wp2
    go_ret
    exact ⟨ret_int H.out.symm, rfl⟩
  · have H := Lib.hid (mx_le h)
    go_enter Try.func49, Try.ntmps49
    go_wp2
    go_ret
    exact ⟨ret_int H.out.symm, rfl⟩
theorem l00Min_any (a b : Int) (w : World) : Calls Try.prog 50 #[.int .i64 a, .int .i64 b] w fun e w' => e = .returned (.int .i64 (mn a b)) ∧ w = w' := by
  by_cases h : a < b
  · have H := Lib.hid (mn_lt h)
    go_enter Try.func50, Try.ntmps50
    go_wp2
    go_ret
    exact ⟨ret_int H.out.symm, rfl⟩
  · have H := Lib.hid (mn_ge h)
    go_enter Try.func50, Try.ntmps50
    go_wp2
    go_ret
    exact ⟨ret_int H.out.symm, rfl⟩
set_option maxHeartbeats 400000 in
theorem gcd_any (w : World) (x y : Nat) (hx : x ≤ 9007199254740992) (hy : y ≤ 9007199254740992) :
    Calls Try.prog 62 #[.int .i64 (x : Int), .int .i64 (y : Int)] w fun e w' => e = .returned (.int .i64 ((gcdN x y : Nat) : Int)) ∧ ∃ d, w' = w.drewN d := by
  go_enter Try.func62, Try.ntmps62
  go_wp2
  go_loopg [0, 1] y (fun m a b wr => ∃ a' b' : Nat, a' ≤ 9007199254740992 ∧ b' ≤ 9007199254740992 ∧ m = b' ∧ a = .int .i64 (a' : Int) ∧ b = .int .i64 (b' : Int) ∧ Hid (Nat.gcd a' b' = Nat.gcd x y) ∧ ∃ d, wr = w.drewN d)
  case atStart => exact ⟨x, y, hx, hy, rfl, rfl, rfl, Lib.hid rfl, 0, rfl⟩
  case round =>
    obtain ⟨a', b', ha, hb, hgk, rfl, rfl, HG, d, rfl⟩ := hrel
    have HGK := Lib.hid hgk
    clear hgk
    by_cases h0 : 0 < b'
    · have h1 : a' % b' < b' := Nat.mod_lt _ h0
      have HS := Lib.hid ((gcd_step a' b').trans HG.out)
      have hne := beq0_no (n := b') (by omega)
      go_wp2
      go_quiet (fail)
      go_wp2
      go_roundg (a' % b')
      case measure => rw [HGK.out]; exact h1
      case rel => exact ⟨b', a' % b', hb, by omega, rfl, rfl, by go_num, HS, _, World.drewN_drewN _ _ _⟩
    · obtain rfl : b' = 0 := by omega
      have HS := Lib.hid (gcd_zero HG.out)
      go_wp2
      go_ret
      exact ⟨ret_int HS.out, _, rfl⟩
set_option maxHeartbeats 400000 in
theorem l02Gcd_any (w : World) (x y : Nat) (hx : x ≤ 9007199254740992) (hy : y ≤ 9007199254740992) :
    Calls Try.prog 60 #[.int .i64 (x : Int), .int .i64 (y : Int)] w fun e w' => e = .returned (.int .i64 ((gcdN x y : Nat) : Int)) ∧ ∃ d, w' = w.drewN d := by
  go_enter Try.func60, Try.ntmps60
  go_wp2
  go_loopg [0, 1] y (fun m a b wr => ∃ a' b' : Nat, a' ≤ 9007199254740992 ∧ b' ≤ 9007199254740992 ∧ m = b' ∧ a = .int .i64 (a' : Int) ∧ b = .int .i64 (b' : Int) ∧ Hid (Nat.gcd a' b' = Nat.gcd x y) ∧ ∃ d, wr = w.drewN d)
  case atStart => exact ⟨x, y, hx, hy, rfl, rfl, rfl, Lib.hid rfl, 0, rfl⟩
  case round =>
    obtain ⟨a', b', ha, hb, hgk, rfl, rfl, HG, d, rfl⟩ := hrel
    have HGK := Lib.hid hgk
    clear hgk
    by_cases h0 : 0 < b'
    · have h1 : a' % b' < b' := Nat.mod_lt _ h0
      have HS := Lib.hid ((gcd_step a' b').trans HG.out)
      have hne := beq0_no (n := b') (by omega)
      go_wp2


      go_roundg (a' % b')
      case measure => rw [HGK.out]; exact h1
      case rel => exact ⟨b', a' % b', hb, by omega, rfl, rfl, by go_num, HS, _, rfl⟩
    · obtain rfl : b' = 0 := by omega
      have HS := Lib.hid (gcd_zero HG.out)
      go_wp2
      go_ret
      exact ⟨ret_int HS.out, _, rfl⟩
end Go.Proofs.Ytigmolopnomioaa
