/-
  Contracts of the mean of levels: the program's function and the reference's. They hold for every list of at most 1048576 numbers.
-/
import Derived.Test.YtfkleaagpflpkaaFrac
namespace Go.Proofs.Ytfkleaagpflpkaa
set_option linter.unusedVariables false
open Go.RowKit

theorem l02Some_any (w : World) (A : Option Addr) (c : Nat) (zs : List Int) (hA : RC w A (ints zs)) (hm : zs.length ≤ 1048576) (r : Int) (hr : (if lvlCode zs = 0 ∧ zs.length = 0 then (3 : Int) else lvlCode zs) = r) :
    Calls Try.prog 16 #[.slice A zs.length c] w fun e w' => e = .returned (.int .i64 r) ∧ w = w' := by
  have HA := Lib.hid hA
  have HR := Lib.hid hr
  clear hA hr
  cases hv : gaugesOk zs
  · have hc := lvlCode_false hv
    have hne : ((2 : Int) == 0) = false := rfl
    go_enter Try.func16, Try.ntmps16
    go_wp2_with ((go_at_call 20; refine (l02List_any _ _ _ _ HA.out hm).mono ?_; rintro e w' ⟨rfl, rfl⟩))
    go_ret
    exact ⟨ret_int (by rw [← HR.out, hc]; simp), rfl⟩
  · have hc := lvlCode_true hv
    by_cases h0 : zs.length = 0
    · have hq := beq0_yes h0
      have H0 := Lib.hid h0
      clear h0
      go_enter Try.func16, Try.ntmps16
      go_wp2_with ((go_at_call 20; refine (l02List_any _ _ _ _ HA.out hm).mono ?_; rintro e w' ⟨rfl, rfl⟩))
      go_ret
      exact ⟨ret_int (by rw [← HR.out, hc, if_pos ⟨rfl, H0.out⟩]), rfl⟩
    · have hq := beq0_no h0
      have H0 := Lib.hid h0
      clear h0
      go_enter Try.func16, Try.ntmps16
      go_wp2_with ((go_at_call 20; refine (l02List_any _ _ _ _ HA.out hm).mono ?_; rintro e w' ⟨rfl, rfl⟩))
      go_ret
      exact ⟨ret_int (by rw [← HR.out, hc, if_neg (fun h => H0.out h.2)]), rfl⟩
end Go.Proofs.Ytfkleaagpflpkaa
