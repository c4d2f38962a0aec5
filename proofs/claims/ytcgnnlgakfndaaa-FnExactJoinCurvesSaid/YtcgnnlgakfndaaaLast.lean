/-
  Contract: the last number of a list. It holds for every list of 1 to 1048576 numbers.
-/
import Derived.Test.YtcgnnlgakfndaaaHelp
import Derived.Test.YtcgnnlgakfndaaaPlain
namespace Go.Proofs.Ytcgnnlgakfndaaa
set_option linter.unusedVariables false
open Go.RowKit
theorem last_any (w : World) (A : Option Addr) (c : Nat) (xs : List Int) (hA : RC w A (ints xs)) (h1 : 1 ≤ xs.length) (hm : xs.length ≤ 1048576) :
    Calls Try.prog 51 #[.slice A xs.length c] w fun e w' => e = .returned (.int .i64 (gt xs (xs.length - 1))) ∧ w = w' := by
  obtain ⟨b, off, rfl, hbl, hcell⟩ := hA (by rw [ints_len]; omega)
  have g := hcell (xs.length - 1) (by rw [ints_len]; omega)
  rw [ints_get xs _ (by omega)] at g
  clear hcell
  go_enter Try.func51, Try.ntmps51
  go_wp2
  go_ret
  exact ⟨rfl, rfl⟩
end Go.Proofs.Ytcgnnlgakfndaaa
