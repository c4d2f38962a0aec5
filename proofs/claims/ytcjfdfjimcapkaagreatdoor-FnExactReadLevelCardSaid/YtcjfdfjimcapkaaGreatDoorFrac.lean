/-
  Contracts on fractions: the size of a number, quotients rounded down, lowest terms; the program's functions and the reference's. Each holds within the bounds that it names.
-/
import Derived.Test.YtcjfdfjimcapkaaGreatDoorBasic
namespace Go.Proofs.YtcjfdfjimcapkaaGreatDoor
set_option linter.unusedVariables false
open Go.RowKit

theorem abs_any (n : Int) (h1 : -9007199254740992 ≤ n) (h2 : n ≤ 9007199254740992) (w : World) :
    Calls Tryz.prog 33 #[.int .i64 n] w fun e w' => e = .returned (.int .i64 ((absN n : Nat) : Int)) ∧ w = w' := by
  by_cases h : 0 ≤ n
  · have H := Lib.hid (absN_nonneg h)
    go_enter Tryz.func33, Tryz.ntmps33
    go_wp2
    go_ret
    exact ⟨ret_int (by rw [H.out]), rfl⟩
  · have H := Lib.hid (absN_neg (n := n) (by omega))
    go_enter Tryz.func33, Tryz.ntmps33
    go_wp2
    go_ret
    exact ⟨ret_int (by rw [H.out]), rfl⟩
theorem l02Size_any (n : Int) (h1 : -9007199254740992 ≤ n) (h2 : n ≤ 9007199254740992) (w : World) :
    Calls Tryz.prog 20 #[.int .i64 n] w fun e w' => e = .returned (.int .i64 ((absN n : Nat) : Int)) ∧ w = w' := by
  by_cases h : 0 ≤ n
  · have H := Lib.hid (absN_nonneg h)
    go_enter Tryz.func20, Tryz.ntmps20
    go_wp2
    go_ret
    exact ⟨ret_int (by rw [H.out]), rfl⟩
  · have H := Lib.hid (absN_neg (n := n) (by omega))
    go_enter Tryz.func20, Tryz.ntmps20
    go_wp2
    go_ret
    exact ⟨ret_int (by rw [H.out]), rfl⟩
end Go.Proofs.YtcjfdfjimcapkaaGreatDoor
