/-
  Contracts: whether two nets are the same. They hold for at most 1048576 ditches each.
-/
import Derived.Test.YthgdiddgooippaaNetOk
namespace Go.Proofs.Ythgdiddgooippaa
set_option linter.unusedVariables false
open Go.RowKit

set_option maxRecDepth 100000 in
set_option maxHeartbeats 1600000 in
theorem sameDit_any (w : World) (A A' : Option Addr) (n n' c c' : Nat) (fl fl' : List Int) (hA : RC w A (ints fl)) (hA' : RC w A' (ints fl')) (lf : fl.length = n * 3) (lf' : fl'.length = n' * 3) (hm : n ≤ 1048576) (hm' : n' ≤ 1048576) :
    Calls Try.prog 39 #[.slice A n c, .slice A' n' c'] w fun e w' => e = .returned (.bool (sameD n n' fl fl')) ∧ Below w.heap.size w w' := by
  have HA := Lib.hid hA
  have HB := Lib.hid hA'
  have HL := Lib.hid lf
  have HL' := Lib.hid lf'
  clear hA hA' lf lf'
  by_cases hl : n = n'
  · subst hl
    have HS := Lib.hid (sameD_eq (n := n) (xs := fl) (ys := fl') rfl)
    go_enter Try.func39, Try.ntmps39
    go_wp2
    go_loopg [14] n (fun m i wr => ∃ k, k ≤ n ∧ m = n - k ∧ i = .int .i64 (k : Int) ∧ Hid (allN (sameAt fl fl') k = true) ∧ Below w.heap.size w wr)
    case atStart => exact ⟨0, Nat.zero_le _, by omega, rfl, Lib.hid rfl, by repeat (first | exact Below.refl _ _ | assumption | apply bl_alloc | apply bl_drewN | apply Below.drew | (refine bl_set ?_ (by first | exact Nat.le_refl _ | (simp; done) | (simp; omega)) _) | (refine bl_trans ?_ (by assumption)))⟩
    case round =>
      obtain ⟨k, hk, hgk, rfl, HT, hb⟩ := hrel
      have HGK := Lib.hid hgk
      clear hgk
      by_cases hlt : k < n
      · obtain ⟨b, off, rfl, hbl, hcell⟩ := HA.out (by rw [ints_len, HL.out]; omega)
        obtain ⟨b', off', rfl, hbl', hcell'⟩ := HB.out (by rw [ints_len, HL'.out]; omega)
        obtain ⟨q0, q1, q2⟩ := dit_cells hbl hcell HL.out hlt hb
        obtain ⟨r0, r1, r2⟩ := dit_cells hbl' hcell' HL'.out hlt hb
        clear hcell hcell'
        obtain ⟨W, hW⟩ : ∃ W, W = wr.alloc (.cells #[.int .i64 (dF fl k), .int .i64 (dT fl k), .int .i64 (dW fl k)] 38) := ⟨_, rfl⟩
        have r0' : W.cell? ⟨b', off' + k * 3, none⟩ = some (.int .i64 (dF fl' k)) := by rw [hW]; exact kc_alloc r0
        have r1' : W.cell? ⟨b', off' + k * 3 + 1, none⟩ = some (.int .i64 (dT fl' k)) := by rw [hW]; exact kc_alloc r1
        have r2' : W.cell? ⟨b', off' + k * 3 + 2, none⟩ = some (.int .i64 (dW fl' k)) := by rw [hW]; exact kc_alloc r2
        have kn : W.heap[wr.heap.size]? = some (.cells #[.int .i64 (dF fl k), .int .i64 (dT fl k), .int .i64 (dW fl k)] 38 (0, 0)) := by rw [hW]; exact heap_alloc_new _ _
        obtain ⟨n0, n1, n2, nl⟩ := row_three kn
        have hbW : Below w.heap.size w W := by rw [hW]; repeat (first | exact Below.refl _ _ | assumption | apply bl_alloc | apply bl_drewN | apply Below.drew | (refine bl_set ?_ (by first | exact Nat.le_refl _ | (simp; done) | (simp; omega)) _) | (refine bl_trans ?_ (by assumption)))
        clear kn
        cases hq : sameAt fl fl' k
        · have HN := Lib.hid (allN_no hlt hq)
          have hq' : eqD (dF fl' k) (dT fl' k) (dW fl' k) (dF fl k) (dT fl k) (dW fl k) = false := (eqD_comm _ _ _ _ _ _).trans hq
          go_wp2
          rw [← hW]
          clear hW
          go_still_tail 5, (by kernel_rfl)
          change wpList _ _ _ _ _ W.drew
          go_wp2
          go_ret
          exact ⟨ret_bool (by rw [HS.out, HN.out]), by repeat (first | exact Below.refl _ _ | assumption | apply bl_alloc | apply bl_drewN | apply Below.drew | (refine bl_set ?_ (by first | exact Nat.le_refl _ | (simp; done) | (simp; omega)) _) | (refine bl_trans ?_ (by assumption)))⟩
        · have HY := Lib.hid (allN_yes HT.out hq)
          have hq' : eqD (dF fl' k) (dT fl' k) (dW fl' k) (dF fl k) (dT fl k) (dW fl k) = true := (eqD_comm _ _ _ _ _ _).trans hq
          go_wp2
          rw [← hW]
          clear hW
          go_still_tail 5, (by kernel_rfl)
          change wpList _ _ _ _ _ W.drew
          go_wp2
          go_roundg (n - (k + 1))
          case measure => rw [HGK.out]; omega
          case rel => exact ⟨k + 1, by omega, rfl, by go_num, HY, by repeat (first | exact Below.refl _ _ | assumption | apply bl_alloc | apply bl_drewN | apply Below.drew | (refine bl_set ?_ (by first | exact Nat.le_refl _ | (simp; done) | (simp; omega)) _) | (refine bl_trans ?_ (by assumption)))⟩
      · obtain rfl : k = n := by omega
        go_wp2
        go_ret
        exact ⟨ret_bool (by rw [HS.out, HT.out]), hb⟩
  · have HN := Lib.hid (sameD_len (xs := fl) (ys := fl') hl)
    go_enter Try.func39, Try.ntmps39
    go_wp2
    go_ret
    exact ⟨ret_bool HN.out.symm, by repeat (first | exact Below.refl _ _ | assumption | apply bl_alloc | apply bl_drewN | apply Below.drew | (refine bl_set ?_ (by first | exact Nat.le_refl _ | (simp; done) | (simp; omega)) _) | (refine bl_trans ?_ (by assumption)))⟩
set_option maxHeartbeats 1600000 in
theorem implSameNet (w : World) (J J' : Int) (A A' : Option Addr) (n k n' k' : Nat) (fl fl' : List Int) (hA : RC w A (ints fl)) (hA' : RC w A' (ints fl')) (lf : fl.length = n * 3) (lf' : fl'.length = n' * 3) (hm : n ≤ 1048576) (hm' : n' ≤ 1048576) :
    Calls Try.prog 14 #[.agg #[.int .i64 J, .slice A n k], .agg #[.int .i64 J', .slice A' n' k']] w fun e w' => e = .returned (.bool (sameN J n fl J' n' fl')) ∧ Below w.heap.size w w' := by
  have HA := Lib.hid hA
  have HB := Lib.hid hA'
  have HL := Lib.hid lf
  have HL' := Lib.hid lf'
  clear hA hA' lf lf'
  cases k0 : (J == J')
  · have H := Lib.hid (sameN_1 (n := n) (n' := n') (fl := fl) (fl' := fl') k0)
    go_enter Try.func14, Try.ntmps14
    go_wp2_with (go_at_call 39; refine (sameDit_any _ _ _ _ _ _ _ _ _ (HA.out.below (by repeat (first | exact Below.refl _ _ | assumption | apply bl_alloc | apply bl_drewN | apply Below.drew | (refine bl_set ?_ (by first | exact Nat.le_refl _ | (simp; done) | (simp; omega)) _) | (refine bl_trans ?_ (by assumption))))) (HB.out.below (by repeat (first | exact Below.refl _ _ | assumption | apply bl_alloc | apply bl_drewN | apply Below.drew | (refine bl_set ?_ (by first | exact Nat.le_refl _ | (simp; done) | (simp; omega)) _) | (refine bl_trans ?_ (by assumption))))) HL.out HL'.out hm hm').mono ?_; rintro e w1 ⟨rfl, hb1⟩)
    go_ret
    exact ⟨ret_bool H.out.symm, by repeat (first | exact Below.refl _ _ | assumption | apply bl_alloc | apply bl_drewN | apply Below.drew | (refine bl_set ?_ (by first | exact Nat.le_refl _ | (simp; done) | (simp; omega)) _) | (refine bl_trans ?_ (by assumption)))⟩
  · have H := Lib.hid (sameN_2 (n := n) (n' := n') (fl := fl) (fl' := fl') k0)
    go_enter Try.func14, Try.ntmps14
    go_wp2_with (go_at_call 39; refine (sameDit_any _ _ _ _ _ _ _ _ _ (HA.out.below (by repeat (first | exact Below.refl _ _ | assumption | apply bl_alloc | apply bl_drewN | apply Below.drew | (refine bl_set ?_ (by first | exact Nat.le_refl _ | (simp; done) | (simp; omega)) _) | (refine bl_trans ?_ (by assumption))))) (HB.out.below (by repeat (first | exact Below.refl _ _ | assumption | apply bl_alloc | apply bl_drewN | apply Below.drew | (refine bl_set ?_ (by first | exact Nat.le_refl _ | (simp; done) | (simp; omega)) _) | (refine bl_trans ?_ (by assumption))))) HL.out HL'.out hm hm').mono ?_; rintro e w1 ⟨rfl, hb1⟩)
    go_ret
    exact ⟨ret_bool H.out.symm, by repeat (first | exact Below.refl _ _ | assumption | apply bl_alloc | apply bl_drewN | apply Below.drew | (refine bl_set ?_ (by first | exact Nat.le_refl _ | (simp; done) | (simp; omega)) _) | (refine bl_trans ?_ (by assumption)))⟩
set_option maxRecDepth 100000 in
set_option maxHeartbeats 1600000 in
theorem specSameNet (w : World) (J J' : Int) (A A' : Option Addr) (n k n' k' : Nat) (fl fl' : List Int) (hA : RC w A (ints fl)) (hA' : RC w A' (ints fl')) (lf : fl.length = n * 3) (lf' : fl'.length = n' * 3) (hm : n ≤ 1048576) (hm' : n' ≤ 1048576) :
    Calls Try.prog 12 #[.agg #[.int .i64 J, .slice A n k], .agg #[.int .i64 J', .slice A' n' k']] w fun e w' => e = .returned (.bool (sameN J n fl J' n' fl')) ∧ Below w.heap.size w w' := by
  have HA := Lib.hid hA
  have HB := Lib.hid hA'
  have HL := Lib.hid lf
  have HL' := Lib.hid lf'
  clear hA hA' lf lf'
  cases k0 : (J == J')
  · have H := Lib.hid (sameN_1 (n := n) (n' := n') (fl := fl) (fl' := fl') k0)
    have k0' : (J != J') = true := by simp [bne, k0]
    go_enter Try.func12, Try.ntmps12
    go_wp2
    go_ret
    exact ⟨ret_bool H.out.symm, by repeat (first | exact Below.refl _ _ | assumption | apply bl_alloc | apply bl_drewN | apply Below.drew | (refine bl_set ?_ (by first | exact Nat.le_refl _ | (simp; done) | (simp; omega)) _) | (refine bl_trans ?_ (by assumption)))⟩
  · have H := Lib.hid (sameN_2 (n := n) (n' := n') (fl := fl) (fl' := fl') k0)
    have k0' : (J != J') = false := by simp [bne, k0]
    by_cases hl : n = n'
    · subst hl
      have HS := Lib.hid (sameD_eq (n := n) (xs := fl) (ys := fl') rfl)
      go_enter Try.func12, Try.ntmps12
      go_wp2
      go_loopg [5] n (fun m i wr => ∃ j, j ≤ n ∧ m = n - j ∧ i = .int .i64 (j : Int) ∧ Hid (allN (sameAt fl fl') j = true) ∧ wr.heap[w.heap.size]? = some (.cells #[.int .i64 J, .slice A n k] 29 (0, 0)) ∧ wr.heap[w.heap.size + 1]? = some (.cells #[.int .i64 J', .slice A' n k'] 29 (0, 0)) ∧ Below w.heap.size w wr)
      case atStart => exact ⟨0, Nat.zero_le _, by omega, rfl, Lib.hid rfl, by repeat (first | (refine blk_new ?_; (first | rfl | (simp; done) | (simp; omega))) | refine blk_drewN ?_ | refine blk_old ?_), by repeat (first | (refine blk_new ?_; (first | rfl | (simp; done) | (simp; omega))) | refine blk_drewN ?_ | refine blk_old ?_), by repeat (first | exact Below.refl _ _ | assumption | apply bl_alloc | apply bl_drewN | apply Below.drew | (refine bl_set ?_ (by first | exact Nat.le_refl _ | (simp; done) | (simp; omega)) _) | (refine bl_trans ?_ (by assumption)))⟩
      case round =>
        obtain ⟨j, hj, hgj, rfl, HT, kx, ky, hb⟩ := hrel
        have HGK := Lib.hid hgj
        obtain ⟨x0, x1, xl⟩ := row_two kx
        obtain ⟨y0, y1, yl⟩ := row_two ky
        clear hgj
        by_cases hlt : j < n
        · obtain ⟨b, off, rfl, hbl, hcell⟩ := HA.out (by rw [ints_len, HL.out]; omega)
          obtain ⟨b', off', rfl, hbl', hcell'⟩ := HB.out (by rw [ints_len, HL'.out]; omega)
          obtain ⟨q0, q1, q2⟩ := dit_cells hbl hcell HL.out hlt hb
          obtain ⟨r0, r1, r2⟩ := dit_cells hbl' hcell' HL'.out hlt hb
          clear hcell hcell'
          cases hq : sameAt fl fl' j
          · have HN := Lib.hid (allN_no hlt hq)
            have hq' : eqD (dF fl j) (dT fl j) (dW fl j) (dF fl' j) (dT fl' j) (dW fl' j) = false := hq
            go_wp2
            go_still_tail 10, (by kernel_rfl)
            change wpList _ _ _ _ _ wr.drew
            go_wp2
            go_ret
            exact ⟨ret_bool (by rw [H.out, HS.out, HN.out]), by repeat (first | exact Below.refl _ _ | assumption | apply bl_alloc | apply bl_drewN | apply Below.drew | (refine bl_set ?_ (by first | exact Nat.le_refl _ | (simp; done) | (simp; omega)) _) | (refine bl_trans ?_ (by assumption)))⟩
          · have HY := Lib.hid (allN_yes HT.out hq)
            have hq' : eqD (dF fl j) (dT fl j) (dW fl j) (dF fl' j) (dT fl' j) (dW fl' j) = true := hq
            go_wp2
            go_still_tail 10, (by kernel_rfl)
            change wpList _ _ _ _ _ wr.drew
            go_wp2
            go_roundg (n - (j + 1))
            case measure => rw [HGK.out]; omega
            case rel => exact ⟨j + 1, by omega, rfl, by go_num, HY, by repeat (first | (refine blk_new ?_; (first | rfl | (simp; done) | (simp; omega))) | refine blk_drewN ?_ | refine blk_old ?_); exact kx, by repeat (first | (refine blk_new ?_; (first | rfl | (simp; done) | (simp; omega))) | refine blk_drewN ?_ | refine blk_old ?_); exact ky, by repeat (first | exact Below.refl _ _ | assumption | apply bl_alloc | apply bl_drewN | apply Below.drew | (refine bl_set ?_ (by first | exact Nat.le_refl _ | (simp; done) | (simp; omega)) _) | (refine bl_trans ?_ (by assumption)))⟩
        · obtain rfl : j = n := by omega
          go_wp2
          go_ret
          exact ⟨ret_bool (by rw [H.out, HS.out, HT.out]), by repeat (first | exact Below.refl _ _ | assumption | apply bl_alloc | apply bl_drewN | apply Below.drew | (refine bl_set ?_ (by first | exact Nat.le_refl _ | (simp; done) | (simp; omega)) _) | (refine bl_trans ?_ (by assumption)))⟩
    · have HN := Lib.hid (sameD_len (xs := fl) (ys := fl') hl)
      go_enter Try.func12, Try.ntmps12
      go_wp2
      go_ret
      exact ⟨ret_bool (by rw [H.out, HN.out]), by repeat (first | exact Below.refl _ _ | assumption | apply bl_alloc | apply bl_drewN | apply Below.drew | (refine bl_set ?_ (by first | exact Nat.le_refl _ | (simp; done) | (simp; omega)) _) | (refine bl_trans ?_ (by assumption)))⟩
end Go.Proofs.Ythgdiddgooippaa
