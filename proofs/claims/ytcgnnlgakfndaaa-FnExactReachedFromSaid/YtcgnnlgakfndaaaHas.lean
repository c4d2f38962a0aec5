/-
  Contracts: whether a number is in a list. They hold for every list of at most 1048576 numbers.
-/
import Derived.Test.YtcgnnlgakfndaaaHelp
import Derived.Test.YtcgnnlgakfndaaaHasPlain
namespace Go.Proofs.Ytcgnnlgakfndaaa
set_option linter.unusedVariables false
open Go.RowKit

set_option maxHeartbeats 800000 in
theorem has_any (w : World) (A : Option Addr) (c : Nat) (xs : List Int) (x : Int) (hA : RC w A (ints xs)) (hm : xs.length ≤ 1048576) :
    Calls Try.prog 52 #[.slice A xs.length c, .int .i64 x] w fun e w' => e = .returned (.bool (hasB xs x)) ∧ w = w' := by
  have HA := Lib.hid hA
  clear hA
  go_enter Try.func52, Try.ntmps52
  go_wp2
  go_loopg [9] xs.length (fun m i wr => ∃ k, k ≤ xs.length ∧ m = xs.length - k ∧ i = .int .i64 (k : Int) ∧ Hid (∀ j, j < k → gt xs j ≠ x) ∧ wr = w)
  case atStart => exact ⟨0, Nat.zero_le _, by omega, rfl, Lib.hid (fun j hj => absurd hj (by omega)), rfl⟩
  case round =>
    obtain ⟨k, hk, hgk, rfl, HT, rfl⟩ := hrel
    have HGK := Lib.hid hgk
    clear hgk
    by_cases hlt : k < xs.length
    · obtain ⟨b, off, rfl, hbl, hcell⟩ := HA.out (by rw [ints_len]; omega)
      have h1 := hcell k (by rw [ints_len]; exact hlt)
      rw [ints_get xs k hlt] at h1
      clear hcell
      by_cases hq : gt xs k = x
      · have HY := Lib.hid (hasB_at hlt hq)
        go_wp2
        go_ret
        exact ⟨ret_bool HY.out.symm, rfl⟩
      · have HN := Lib.hid (show ∀ j, j < k + 1 → gt xs j ≠ x from fun j hj => by
          by_cases e : j = k
          · subst e; exact hq
          · exact HT.out j (by omega))
        go_wp2
        go_roundg (xs.length - (k + 1))
        case measure => rw [HGK.out]; omega
        case rel => exact ⟨k + 1, by omega, rfl, by go_num, HN, rfl⟩
    · obtain rfl : k = xs.length := by omega
      have HY := Lib.hid (hasB_none HT.out)
      go_wp2
      go_ret
      exact ⟨ret_bool HY.out.symm, rfl⟩
end Go.Proofs.Ytcgnnlgakfndaaa
