/-
  Contracts on fractions: the size of a number, quotients rounded down, lowest terms; the program's functions and the reference's. Each holds within the bounds that it names.
-/
import Derived.Test.YtnhdhjijdcdilaaBasic
namespace Go.Proofs.Ytnhdhjijdcdilaa
set_option linter.unusedVariables false
open Go.RowKit

theorem abs_any (n : Int) (h1 : -9007199254740992 ≤ n) (h2 : n ≤ 9007199254740992) (w : World) :
    Calls Try.prog 105 #[.int .i64 n] w fun e w' => e = .returned (.int .i64 ((absN n : Nat) : Int)) ∧ w = w' := by
  by_cases h : 0 ≤ n
  · have H := Lib.hid (absN_nonneg h)
    go_enter Try.func105, Try.ntmps105
    go_wp2
    go_ret
    exact ⟨ret_int (by rw [H.out]), rfl⟩
  · have H := Lib.hid (absN_neg (n := n) (by omega))
    go_enter Try.func105, Try.ntmps105
    go_wp2
    go_ret
    exact ⟨ret_int (by rw [H.out]), rfl⟩
theorem l02Size_any (n : Int) (h1 : -9007199254740992 ≤ n) (h2 : n ≤ 9007199254740992) (w : World) :
    Calls Try.prog 103 #[.int .i64 n] w fun e w' => e = .returned (.int .i64 ((absN n : Nat) : Int)) ∧ w = w' := by
  by_cases h : 0 ≤ n
  · have H := Lib.hid (absN_nonneg h)
    go_enter Try.func103, Try.ntmps103
    go_wp2
    go_ret
    exact ⟨ret_int (by rw [H.out]), rfl⟩
  · have H := Lib.hid (absN_neg (n := n) (by omega))
    go_enter Try.func103, Try.ntmps103
    go_wp2
    go_ret
    exact ⟨ret_int (by rw [H.out]), rfl⟩
theorem l02Floor_any (n d : Int) (h1 : -4611686018427387904 ≤ n) (h2 : n ≤ 4611686018427387904) (hd : 1 ≤ d) (w : World) :
    Calls Try.prog 65 #[.int .i64 n, .int .i64 d] w fun e w' => e = .returned (.int .i64 (n / d)) ∧ w = w' := by
  by_cases h : 0 ≤ n
  · have b1 := ediv_bd h hd
    have b2 := emod_bd n hd
    go_enter Try.func65, Try.ntmps65
    go_wp2
    go_ret
    exact ⟨rfl, rfl⟩
  · have b1 := tdiv_bd (k := 4611686018427387904) h1 h2 hd
    by_cases hm : n.tmod d < 0
    · have H := Lib.hid (floor_lt hd hm)
      go_enter Try.func65, Try.ntmps65
      go_wp2
      go_ret
      exact ⟨ret_int H.out, rfl⟩
    · have H := Lib.hid (floor_ge hd hm)
      go_enter Try.func65, Try.ntmps65
      go_wp2
      go_ret
      exact ⟨ret_int H.out, rfl⟩
set_option maxHeartbeats 400000 in
theorem fraction_any (n : Int) (d : Nat) (h1 : -9007199254740992 ≤ n) (h2 : n ≤ 9007199254740992) (hd : 1 ≤ d) (hd' : d ≤ 9007199254740992) (w : World) :
    Calls Try.prog 88 #[.int .i64 n, .int .i64 (d : Int)] w fun e w' => e = .returned (.agg #[.int .i64 (n.tdiv ((gcdN (absN n) d : Nat) : Int)), .int .i64 ((d : Int) / ((gcdN (absN n) d : Nat) : Int))]) ∧ Below w.heap.size w w' := by
  have ha : absN n ≤ 9007199254740992 := absN_le (k := 9007199254740992) h1 h2
  have g1 := gcdN_pos (absN n) hd
  have b1 := tdiv_bd (k := 9007199254740992) h1 h2 g1
  have b2 := ediv_bd (n := (d : Int)) (by omega) g1
  go_enter Try.func88, Try.ntmps88
  go_wp2_with (first | (go_at_call 105; refine (abs_any _ h1 h2 _).mono ?_; rintro e w' ⟨rfl, rfl⟩) | (go_at_call 104; refine (gcd_any _ _ _ ha hd').mono ?_; rintro e w' ⟨rfl, dd, rfl⟩))
  go_region
  all_goals go_wp2
  all_goals
    refine bodyPost_ret (v := .agg #[.int .i64 (n.tdiv ((gcdN (absN n) d : Nat) : Int)), .int .i64 ((d : Int) / ((gcdN (absN n) d : Nat) : Int))]) (by simp [results, Try.results88, go_sem]) rfl ⟨rfl, ?_⟩
    repeat (first | exact Below.refl _ _ | assumption | apply bl_alloc | apply bl_drewN | apply Below.drew | (refine bl_set ?_ (by first | exact Nat.le_refl _ | (simp; done) | (simp; omega)) _) | (refine bl_trans ?_ (by assumption)))
set_option maxHeartbeats 400000 in
theorem l02Make_any (n : Int) (d : Nat) (h1 : -9007199254740992 ≤ n) (h2 : n ≤ 9007199254740992) (hd : 1 ≤ d) (hd' : d ≤ 9007199254740992) (w : World) :
    Calls Try.prog 85 #[.int .i64 n, .int .i64 (d : Int)] w fun e w' => e = .returned (.agg #[.int .i64 (n.tdiv ((gcdN (absN n) d : Nat) : Int)), .int .i64 ((d : Int) / ((gcdN (absN n) d : Nat) : Int))]) ∧ Below w.heap.size w w' := by
  have ha : absN n ≤ 9007199254740992 := absN_le (k := 9007199254740992) h1 h2
  have g1 := gcdN_pos (absN n) hd
  have b1 := tdiv_bd (k := 9007199254740992) h1 h2 g1
  have b2 := ediv_bd (n := (d : Int)) (by omega) g1
  go_enter Try.func85, Try.ntmps85
  go_wp2_with (first | (go_at_call 103; refine (l02Size_any _ h1 h2 _).mono ?_; rintro e w' ⟨rfl, rfl⟩) | (go_at_call 102; refine (l02Gcd_any _ _ _ ha hd').mono ?_; rintro e w' ⟨rfl, dd, rfl⟩))
  go_region
  all_goals go_wp2
  all_goals
    refine bodyPost_ret (v := .agg #[.int .i64 (n.tdiv ((gcdN (absN n) d : Nat) : Int)), .int .i64 ((d : Int) / ((gcdN (absN n) d : Nat) : Int))]) (by simp [results, Try.results85, go_sem]) rfl ⟨rfl, ?_⟩
    repeat (first | exact Below.refl _ _ | assumption | apply bl_alloc | apply bl_drewN | apply Below.drew | (refine bl_set ?_ (by first | exact Nat.le_refl _ | (simp; done) | (simp; omega)) _) | (refine bl_trans ?_ (by assumption)))
end Go.Proofs.Ytnhdhjijdcdilaa
