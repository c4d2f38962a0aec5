/-
  Contracts on nets: what flows out of a junction, whether flows lead water to the outlet. They hold for lists of at most 1048576 numbers.
-/
import Derived.Test.YtcgnnlgakfndaaaNetCut
import Derived.Test.YtcgnnlgakfndaaaLeadPlain
namespace Go.Proofs.Ytcgnnlgakfndaaa
set_option linter.unusedVariables false
open Go.RowKit

theorem implInner (w : World) (J s : Int) (A : Option Addr) (n k0 : Nat) (hJ : 2 ≤ J ∧ J ≤ 10) :
    Calls Try.prog 60 #[.agg #[.int .i64 J, .slice A n k0], .int .i64 s] w fun e w' => e = .returned (.bool (inR s 1 (J - 1))) ∧ Below w.heap.size w w' := by
  have j1 := hJ.1
  have j2 := hJ.2
  go_enter Try.func60, Try.ntmps60
  go_wp2_with ((go_at_call 45; refine (in_any _ _ _ _).mono ?_; rintro e w' ⟨rfl, rfl⟩))
  go_ret
  exact ⟨rfl, by repeat (first | exact Below.refl _ _ | assumption | apply bl_alloc | apply bl_drewN | apply Below.drew | (refine bl_set ?_ (by first | exact Nat.le_refl _ | (simp; done) | (simp; omega)) _) | (refine bl_trans ?_ (by assumption)))⟩
theorem ret_v' {a b : Int} (h : a = b) : Value.int .i64 a = Value.int .i64 b := by rw [h]

end Go.Proofs.Ytcgnnlgakfndaaa
