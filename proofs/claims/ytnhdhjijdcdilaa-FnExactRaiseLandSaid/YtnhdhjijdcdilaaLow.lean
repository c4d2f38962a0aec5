/-
  Contracts on lands, the fifth part: the lowest cells. They hold for every land of at most 1048576 heights.
-/
import Derived.Test.YtnhdhjijdcdilaaLand3
import Derived.Test.YtnhdhjijdcdilaaLists
import Derived.Test.YtnhdhjijdcdilaaOnly
namespace Go.Proofs.Ytnhdhjijdcdilaa
set_option linter.unusedVariables false
open Go.RowKit

set_option maxHeartbeats 800000 in
theorem least_any (w : World) (A : Option Addr) (k : Nat) (hs : List Int) (hA : RC w A (ints hs)) (hm : hs.length ≤ 1048576) (h1 : 1 ≤ hs.length) :
    Calls Try.prog 70 #[.slice A hs.length k] w fun e w' => e = .returned (.int .i64 (leastTo hs hs.length)) ∧ w = w' := by
  have HA := Lib.hid hA
  clear hA
  obtain ⟨b, off, rfl, hbl, hcell⟩ := HA.out (by rw [ints_len]; omega)
  have g0 := hcell 0 (by rw [ints_len]; omega)
  rw [ints_get hs 0 (by omega), Nat.add_zero] at g0
  clear hcell
  go_enter Try.func70, Try.ntmps70
  go_wp2
  go_loopg [3, 11] hs.length (fun m s i wr => ∃ j, j ≤ hs.length ∧ m = hs.length - j ∧ i = .int .i64 (j : Int) ∧ s = .int .i64 (leastTo hs j) ∧ wr = w)
  case atStart => exact ⟨0, Nat.zero_le _, by omega, rfl, rfl, rfl⟩
  case round =>
    obtain ⟨j, hj, hgj, rfl, rfl, rfl⟩ := hrel
    have HGK := Lib.hid hgj
    clear hgj
    by_cases hlt : j < hs.length
    · obtain ⟨b', off', hb', hbl', hcell⟩ := HA.out (by rw [ints_len]; omega)
      cases hb'
      have h1 := hcell j (by rw [ints_len]; exact hlt)
      rw [ints_get hs j hlt] at h1
      clear hcell
      by_cases hv : leastTo hs j < gt hs j
      · have HS := Lib.hid (show leastTo hs (j + 1) = leastTo hs j from mn_lt hv)
        go_wp2
        go_roundg (hs.length - (j + 1))
        case measure => rw [HGK.out]; omega
        case rel => exact ⟨j + 1, by omega, rfl, by go_num, ret_v HS.out.symm, rfl⟩
      · have HS := Lib.hid (show leastTo hs (j + 1) = gt hs j from mn_ge hv)
        by_cases hv2 : gt hs j < leastTo hs j
        · go_wp2
          go_roundg (hs.length - (j + 1))
          case measure => rw [HGK.out]; omega
          case rel => exact ⟨j + 1, by omega, rfl, by go_num, ret_v HS.out.symm, rfl⟩
        · go_wp2
          go_roundg (hs.length - (j + 1))
          case measure => rw [HGK.out]; omega
          case rel => exact ⟨j + 1, by omega, rfl, by go_num, ret_v (by rw [HS.out]; omega), rfl⟩
    · obtain rfl : j = hs.length := by omega
      go_wp2
      go_ret
      exact ⟨rfl, rfl⟩
set_option maxHeartbeats 1600000 in
theorem implLow (w : World) (r c : Int) (A : Option Addr) (k : Nat) (hs : List Int) (hA : RC w A (ints hs)) (hm : hs.length ≤ 1048576) : Calls Try.prog 33 #[.agg #[.int .i64 r, .int .i64 c, .slice A hs.length k]] w (NewIntsC (lowL r c hs) (lowC r c hs) w) := by
  have HA := Lib.hid hA
  clear hA
  cases k0 : landOk r c hs
  · have H := Lib.hid (low_bad k0)
    go_enter Try.func33, Try.ntmps33
    go_wp2_with ((go_at_call 66; refine (implValidLand _ _ _ _ _ _ (HA.out.below (by repeat (first | exact Below.refl _ _ | assumption | apply bl_alloc | apply bl_drewN | apply Below.drew | (refine bl_set ?_ (by first | exact Nat.le_refl _ | (simp; done) | (simp; omega)) _) | (refine bl_trans ?_ (by assumption))))) hm).mono ?_; rintro e w1 ⟨rfl, hb1⟩; have hk := keep_blk (hb := hb1) (h := by first | exact hk | exact heap_alloc_new _ _ | (repeat (first | (refine blk_new ?_; (first | rfl | (simp; done) | (simp; omega))) | refine blk_drewN ?_ | refine blk_old ?_))); obtain ⟨hc0, hc1, hc2, hlt⟩ := row_three hk))
    go_ret2
    rw [H.out.1, H.out.2]
    exact newC_nil _ _ _ _ (by repeat (first | exact Below.refl _ _ | assumption | apply bl_alloc | apply bl_drewN | apply Below.drew | (refine bl_set ?_ (by first | exact Nat.le_refl _ | (simp; done) | (simp; omega)) _) | (refine bl_trans ?_ (by assumption))))
  · have H := Lib.hid (low_ok k0)
    have L0 := Lib.hid (landOk_of k0)
    go_enter Try.func33, Try.ntmps33
    go_wp2_with fail
    refine (implValidLand _ _ _ _ _ _ (HA.out.below (by repeat (first | exact Below.refl _ _ | assumption | apply bl_alloc | apply bl_drewN | apply Below.drew | (refine bl_set ?_ (by first | exact Nat.le_refl _ | (simp; done) | (simp; omega)) _) | (refine bl_trans ?_ (by assumption))))) hm).mono ?_
    rintro e w1 ⟨rfl, hb1⟩
    have hk := keep_blk (hb := hb1) (h := by first | exact hk | exact heap_alloc_new _ _ | (repeat (first | (refine blk_new ?_; (first | rfl | (simp; done) | (simp; omega))) | refine blk_drewN ?_ | refine blk_old ?_))); obtain ⟨hc0, hc1, hc2, hlt⟩ := row_three hk
    go_wp2_with fail
    refine (least_any _ _ _ _ (HA.out.below (by repeat (first | exact Below.refl _ _ | assumption | apply bl_alloc | apply bl_drewN | apply Below.drew | (refine bl_set ?_ (by first | exact Nat.le_refl _ | (simp; done) | (simp; omega)) _) | (refine bl_trans ?_ (by assumption))))) hm L0.out.2.2.2.1).mono ?_
    rintro e w' ⟨rfl, rfl⟩
    go_wp2_with (first | (go_at_call 72; go_in) | fail)
    refine (idxLow _ w.heap.size w1.heap.size A k hs (leastTo hs hs.length) (by first | exact hc2 | (simp [go_sem, hc2, hlt]; done)) (by simp [go_sem]) (by simp; omega) (by first | (simp; done) | (simp; omega)) (HA.out.below (by repeat (first | exact Below.refl _ _ | assumption | apply bl_alloc | apply bl_drewN | apply Below.drew | (refine bl_set ?_ (by first | exact Nat.le_refl _ | (simp; done) | (simp; omega)) _) | (refine bl_trans ?_ (by assumption))))) hm).mono ?_
    rintro e w2 ⟨A1, c1, rfl, ho, hb⟩
    go_wp2
    go_ret2
    rw [H.out.1, H.out.2]
    exact ⟨A1, c1, rfl, ho.wide (Below.size (B := w.heap.size) (by repeat (first | exact Below.refl _ _ | assumption | apply bl_alloc | apply bl_drewN | apply Below.drew | (refine bl_set ?_ (by first | exact Nat.le_refl _ | (simp; done) | (simp; omega)) _) | (refine bl_trans ?_ (by assumption))))) (Nat.le_refl _), by repeat (first | exact Below.refl _ _ | assumption | apply bl_alloc | apply bl_drewN | apply Below.drew | (refine bl_set ?_ (by first | exact Nat.le_refl _ | (simp; done) | (simp; omega)) _) | (refine bl_trans ?_ (by assumption)))⟩
set_option maxHeartbeats 1600000 in
theorem specLow (w : World) (r c : Int) (A : Option Addr) (k : Nat) (hs : List Int) (hA : RC w A (ints hs)) (hm : hs.length ≤ 1048576) : Calls Try.prog 32 #[.agg #[.int .i64 r, .int .i64 c, .slice A hs.length k]] w (NewIntsC (lowL r c hs) (lowC r c hs) w) := by
  have HA := Lib.hid hA
  clear hA
  cases k0 : landOk r c hs
  · have H := Lib.hid (low_bad k0)
    go_enter Try.func32, Try.ntmps32
    go_wp2_with ((go_at_call 62; refine (l03Ok_any _ _ r c _ k hs (by simp [go_sem]) (by simp [go_sem]) (by simp [go_sem]) (HA.out.below (by repeat (first | exact Below.refl _ _ | assumption | apply bl_alloc | apply bl_drewN | apply Below.drew | (refine bl_set ?_ (by first | exact Nat.le_refl _ | (simp; done) | (simp; omega)) _) | (refine bl_trans ?_ (by assumption))))) hm).mono ?_; rintro e w' ⟨rfl, dd, rfl⟩))
    go_ret2
    rw [H.out.1, H.out.2]
    exact newC_nil _ _ _ _ (by repeat (first | exact Below.refl _ _ | assumption | apply bl_alloc | apply bl_drewN | apply Below.drew | (refine bl_set ?_ (by first | exact Nat.le_refl _ | (simp; done) | (simp; omega)) _) | (refine bl_trans ?_ (by assumption))))
  · have H := Lib.hid (low_ok k0)
    have L0 := Lib.hid (landOk_of k0)
    have hn1 := L0.out.2.2.2.1
    obtain ⟨i0, hi, hz0, hz1, hz2⟩ := info_parts infoInt
    obtain ⟨b, off, rfl, hbl, hcell⟩ := HA.out (by rw [ints_len]; omega)
    have g0 := hcell 0 (by rw [ints_len]; omega)
    rw [ints_get hs 0 (by omega), Nat.add_zero] at g0
    clear hcell
    go_enter Try.func32, Try.ntmps32
    go_wp2_with ((go_at_call 62; refine (l03Ok_any _ _ r c _ k hs (by simp [go_sem]) (by simp [go_sem]) (by simp [go_sem]) (HA.out.below (by repeat (first | exact Below.refl _ _ | assumption | apply bl_alloc | apply bl_drewN | apply Below.drew | (refine bl_set ?_ (by first | exact Nat.le_refl _ | (simp; done) | (simp; omega)) _) | (refine bl_trans ?_ (by assumption))))) hm).mono ?_; rintro e w' ⟨rfl, dd, rfl⟩))
    go_loopg [4, 5] (hs.length - 1) (fun m s i wr => ∃ j, 1 ≤ j ∧ j ≤ hs.length ∧ m = hs.length - j ∧ i = .int .i64 (j : Int) ∧ s = .int .i64 (leastTo hs j) ∧ wr.heap[w.heap.size]? = some (.cells #[.int .i64 r, .int .i64 c, .slice (some ⟨b, off, none⟩) hs.length k] 40 (0, 0)) ∧ Below w.heap.size w wr)
    case atStart => exact ⟨1, by omega, by omega, by omega, rfl, by rw [leastTo_one], by first | (repeat (first | (refine blk_new ?_; (first | rfl | (simp; done) | (simp; omega))) | refine blk_drewN ?_ | refine blk_old ?_)) | (simp [go_sem]; done), by repeat (first | exact Below.refl _ _ | assumption | apply bl_alloc | apply bl_drewN | apply Below.drew | (refine bl_set ?_ (by first | exact Nat.le_refl _ | (simp; done) | (simp; omega)) _) | (refine bl_trans ?_ (by assumption)))⟩
    case round =>
      clear g0
      obtain ⟨j, hj1, hj, hgj, rfl, rfl, kx, hb⟩ := hrel
      obtain ⟨x0, x1, x2, xl⟩ := row_three kx
      have HGK := Lib.hid hgj
      clear hgj
      by_cases hlt : j < hs.length
      · obtain ⟨b', off', hb', hbl', hcell⟩ := HA.out (by rw [ints_len]; omega)
        cases hb'
        have h1 := (hb.cell (p := ⟨b, off + j, none⟩) hbl).trans (hcell j (by rw [ints_len]; exact hlt))
        rw [ints_get hs j hlt] at h1
        clear hcell
        go_wp2_with (go_at_call 69; refine (l00Min_any _ _ _).mono ?_; rintro e w' ⟨rfl, rfl⟩)
        go_roundg (hs.length - (j + 1))
        case measure => rw [HGK.out]; omega
        case rel => exact ⟨j + 1, by omega, by omega, rfl, by go_num, rfl, kx, hb⟩
      · obtain rfl : j = hs.length := by omega
        clear hj1 hj hlt
        have KX := Lib.hid kx
        clear kx
        go_wp2
        obtain ⟨wo, rfl⟩ : ∃ wo : World, wo = wr := ⟨_, rfl⟩
        go_loopg [6, 7] hs.length (fun m v i wr => ∃ j, j ≤ hs.length ∧ m = hs.length - j ∧ i = .int .i64 (j : Int) ∧ wr.ownsRow (w.heap.size + 1) 2 1 v (idxTo (isAt hs (leastTo hs hs.length)) j).length (ints (idxTo (isAt hs (leastTo hs hs.length)) j)) ∧ wr.heap[w.heap.size]? = some (.cells #[.int .i64 r, .int .i64 c, .slice (some ⟨b, off, none⟩) hs.length k] 40 (0, 0)) ∧ Below w.heap.size w wr)
        case atStart => exact ⟨0, Nat.zero_le _, by omega, rfl, own_litB _ _ xl, by first | exact blk_old KX.out | exact KX.out, by repeat (first | exact Below.refl _ _ | assumption | apply bl_alloc | apply bl_drewN | apply Below.drew | (refine bl_set ?_ (by first | exact Nat.le_refl _ | (simp; done) | (simp; omega)) _) | (refine bl_trans ?_ (by assumption)))⟩
        case round =>
          clear KX HGK x0 x1 x2 xl
          obtain ⟨j, hj, hgj, rfl, hown, kx, hb2⟩ := hrel
          obtain ⟨x0, x1, x2, xl⟩ := row_three kx
          have HGK := Lib.hid hgj
          clear hgj
          have hlen := idxTo_len (isAt hs (leastTo hs hs.length)) j
          by_cases hlt : j < hs.length
          · obtain ⟨b', off', hb', hbl', hcell⟩ := HA.out (by rw [ints_len]; omega)
            cases hb'
            have h1 := (hb2.cell (p := ⟨b, off + j, none⟩) hbl).trans (hcell j (by rw [ints_len]; exact hlt))
            rw [ints_get hs j hlt] at h1
            clear hcell
            cases hq : (gt hs j == leastTo hs hs.length)
            · have HS := Lib.hid (idxTo_no (q := isAt hs (leastTo hs hs.length)) (k := j) hq)
              go_wp2
              go_roundg (hs.length - (j + 1))
              case measure => rw [HGK.out]; omega
              case rel => exact ⟨j + 1, by omega, rfl, by go_num, by rw [HS.out]; exact hown, kx, hb2⟩
            · have HS := Lib.hid (idxTo_yes (q := isAt hs (leastTo hs hs.length)) (k := j) hq)
              go_wp2_with (at_builtin; refine wpList_append_own _ rfl _ _ 23 rfl (w.heap.size + 1) 2 i0 (.int .i64 0) 1 8 Try.underlying23 hi hz0 hz1 hz2 rfl (by decide) _ _ _ rfl (hown.alloc _) ⟨wr.heap.size, 0, none⟩ 1 1 [.int .i64 (j : Int)] rfl rfl (by first | exact app_news (heap_alloc_new _ _) | exact app_news (heap_alloc_new wr _)) (app_one _) (by have := hlen; unfold maxLen; omega) (by have := hlen; omega) (by have := hb2.size; simp; omega) ?_; intro v' w1 hown' hgrow _)
              have R1 := Lib.hid (app_own hown' HS.out)
              have R2 := Lib.hid (app_belowB (bl_alloc hb2 _) (hown.alloc _) (Nat.le_succ _) hgrow)
              have R3 := Lib.hid (app_keep (hown.alloc _) hgrow (blk_old kx) (Nat.lt_succ_self _))
              go_roundg (hs.length - (j + 1))
              case measure => rw [HGK.out]; omega
              case rel => exact ⟨j + 1, by omega, rfl, by go_num, R1.out, R3.out, R2.out⟩
          · obtain rfl : j = hs.length := by omega
            go_wp2
            go_ret2
            rw [H.out.1, H.out.2]
            exact newC_end (own_base hown (Nat.le_succ _)) hb2
end Go.Proofs.Ytnhdhjijdcdilaa
