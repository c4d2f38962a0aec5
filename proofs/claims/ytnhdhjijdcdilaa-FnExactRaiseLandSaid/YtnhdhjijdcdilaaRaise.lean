/-
  Contracts on lands, the seventh part: heights raised. They hold for every land of at most 1048576 heights.
-/
import Derived.Test.YtnhdhjijdcdilaaSeth
import Derived.Deep.RegionWith
namespace Go.Proofs.Ytnhdhjijdcdilaa
set_option linter.unusedVariables false
open Go.RowKit

set_option maxHeartbeats 1600000 in
theorem implRaise (w : World) (r c : Int) (A : Option Addr) (k : Nat) (hs : List Int) (y : Int) (hA : RC w A (ints hs)) (hm : hs.length ≤ 1048576) : Calls Try.prog 41 #[.agg #[.int .i64 r, .int .i64 c, .slice A hs.length k], .int .i64 y] w (NewLandCC (raX r c hs y r) (raX r c hs y c) (raL r c hs y) (volV r c hs y) (levelC r c hs y) w) := by
  have HA := Lib.hid hA
  clear hA
  cases k0 : landOk r c hs
  · skip
    have H := Lib.hid (ra_resno (levelC_1 (y := y) k0) (by omega))
    go_enter Try.func41, Try.ntmps41
    go_wp2_with (first | (go_at_call 66; refine (implValidLand _ _ _ _ _ _ (HA.out.below (by repeat (first | exact Below.refl _ _ | assumption | apply bl_alloc | apply bl_drewN | apply Below.drew | (refine bl_set ?_ (by first | exact Nat.le_refl _ | (simp; done) | (simp; omega)) _) | (refine bl_trans ?_ (by assumption))))) hm).mono ?_; rintro e w1 ⟨rfl, hb1⟩; have hk : w1.heap[w.heap.size]? = some (.cells #[.int .i64 r, .int .i64 c, .slice A hs.length k] 40 (0, 0)) := keep_blk (hb := hb1) (h := by first | exact hk | (repeat (first | (refine blk_new ?_; (first | rfl | (simp; done) | (simp; omega))) | refine blk_drewN ?_ | refine blk_old ?_))); obtain ⟨hc0, hc1, hc2, hlt⟩ := row_three hk; have kr : w1.heap[w.heap.size + 1]? = some (.cells #[.int .i64 0, .int .i64 0, .slice none 0 0] 40 (0, 0)) := keep_blk (hb := hb1) (h := by first | exact kr | (repeat (first | (refine blk_new ?_; (first | rfl | (simp; done) | (simp; omega))) | refine blk_drewN ?_ | refine blk_old ?_))); obtain ⟨kr0, kr1, kr2, kf0, kf1, kf2, krl⟩ := cells_three kr (Below.refl _ _)) | (go_at_call 78; refine (validLevel_any _ _).mono ?_; rintro e w' ⟨rfl, rfl⟩))
    refine bodyPost_ret (v := .tuple #[.agg #[.int .i64 0, .int .i64 0, .slice none 0 0], .int .i64 0, .int .i64 1]) (by simp [results, Try.results41, go_sem, kr0, kr1, kr2]) rfl ?_
    rw [H.out.1, H.out.2.1, H.out.2.2.1, H.out.2.2.2.1, H.out.2.2.2.2]
    exact ⟨none, 0, rfl, OwnC.nil _ _ _ _, by repeat (first | exact Below.refl _ _ | assumption | apply bl_alloc | apply bl_drewN | apply Below.drew | (refine bl_set ?_ (by first | exact Nat.le_refl _ | (simp; done) | (simp; omega)) _) | (refine bl_trans ?_ (by assumption)))⟩
  · cases k1 : lvl y
    · skip
      have H := Lib.hid (ra_resno (levelC_2 k0 k1) (by omega))
      go_enter Try.func41, Try.ntmps41
      go_wp2_with (first | (go_at_call 66; refine (implValidLand _ _ _ _ _ _ (HA.out.below (by repeat (first | exact Below.refl _ _ | assumption | apply bl_alloc | apply bl_drewN | apply Below.drew | (refine bl_set ?_ (by first | exact Nat.le_refl _ | (simp; done) | (simp; omega)) _) | (refine bl_trans ?_ (by assumption))))) hm).mono ?_; rintro e w1 ⟨rfl, hb1⟩; have hk : w1.heap[w.heap.size]? = some (.cells #[.int .i64 r, .int .i64 c, .slice A hs.length k] 40 (0, 0)) := keep_blk (hb := hb1) (h := by first | exact hk | (repeat (first | (refine blk_new ?_; (first | rfl | (simp; done) | (simp; omega))) | refine blk_drewN ?_ | refine blk_old ?_))); obtain ⟨hc0, hc1, hc2, hlt⟩ := row_three hk; have kr : w1.heap[w.heap.size + 1]? = some (.cells #[.int .i64 0, .int .i64 0, .slice none 0 0] 40 (0, 0)) := keep_blk (hb := hb1) (h := by first | exact kr | (repeat (first | (refine blk_new ?_; (first | rfl | (simp; done) | (simp; omega))) | refine blk_drewN ?_ | refine blk_old ?_))); obtain ⟨kr0, kr1, kr2, kf0, kf1, kf2, krl⟩ := cells_three kr (Below.refl _ _)) | (go_at_call 78; refine (validLevel_any _ _).mono ?_; rintro e w' ⟨rfl, rfl⟩))
      refine bodyPost_ret (v := .tuple #[.agg #[.int .i64 0, .int .i64 0, .slice none 0 0], .int .i64 0, .int .i64 2]) (by simp [results, Try.results41, go_sem, kr0, kr1, kr2]) rfl ?_
      rw [H.out.1, H.out.2.1, H.out.2.2.1, H.out.2.2.2.1, H.out.2.2.2.2]
      exact ⟨none, 0, rfl, OwnC.nil _ _ _ _, by repeat (first | exact Below.refl _ _ | assumption | apply bl_alloc | apply bl_drewN | apply Below.drew | (refine bl_set ?_ (by first | exact Nat.le_refl _ | (simp; done) | (simp; omega)) _) | (refine bl_trans ?_ (by assumption)))⟩
    · have H := Lib.hid (ra_resyes (levelC_0 k0 k1))
      have L0 := Lib.hid (landOk_of k0)
      have hy := lvl_of k1
      have h144 := L0.out.2.2.2.2.1
      obtain ⟨i0, hi, hz0, hz1, hz2⟩ := info_parts infoInt
      go_enter Try.func41, Try.ntmps41
      go_wp2_with (first | (go_at_call 66; refine (implValidLand _ _ _ _ _ _ (HA.out.below (by repeat (first | exact Below.refl _ _ | assumption | apply bl_alloc | apply bl_drewN | apply Below.drew | (refine bl_set ?_ (by first | exact Nat.le_refl _ | (simp; done) | (simp; omega)) _) | (refine bl_trans ?_ (by assumption))))) hm).mono ?_; rintro e w1 ⟨rfl, hb1⟩; have hk : w1.heap[w.heap.size]? = some (.cells #[.int .i64 r, .int .i64 c, .slice A hs.length k] 40 (0, 0)) := keep_blk (hb := hb1) (h := by first | exact hk | (repeat (first | (refine blk_new ?_; (first | rfl | (simp; done) | (simp; omega))) | refine blk_drewN ?_ | refine blk_old ?_))); obtain ⟨hc0, hc1, hc2, hlt⟩ := row_three hk; have kr : w1.heap[w.heap.size + 1]? = some (.cells #[.int .i64 0, .int .i64 0, .slice none 0 0] 40 (0, 0)) := keep_blk (hb := hb1) (h := by first | exact kr | (repeat (first | (refine blk_new ?_; (first | rfl | (simp; done) | (simp; omega))) | refine blk_drewN ?_ | refine blk_old ?_))); obtain ⟨kr0, kr1, kr2, kf0, kf1, kf2, krl⟩ := cells_three kr (Below.refl _ _)) | (go_at_call 78; refine (validLevel_any _ _).mono ?_; rintro e w' ⟨rfl, rfl⟩))
      go_loopg [7, 24] hs.length (fun m v i wr => ∃ j, j ≤ hs.length ∧ m = hs.length - j ∧ i = .int .i64 (j : Int) ∧ wr.ownsRow (w.heap.size + 2) 2 1 v (raiseTo hs y j).length (ints (raiseTo hs y j)) ∧ wr.heap[w.heap.size]? = some (.cells #[.int .i64 r, .int .i64 c, .slice A hs.length k] 40 (0, 0)) ∧ wr.heap[w.heap.size + 1]? = some (.cells #[.int .i64 0, .int .i64 0, .slice none 0 0] 40 (0, 0)) ∧ Below w.heap.size w wr)
      case atStart => exact ⟨0, Nat.zero_le _, by omega, rfl, own_litB _ _ (by omega), by repeat (first | (refine blk_new ?_; (first | rfl | (simp; done) | (simp; omega))) | refine blk_drewN ?_ | refine blk_old ?_); exact hk, by repeat (first | (refine blk_new ?_; (first | rfl | (simp; done) | (simp; omega))) | refine blk_drewN ?_ | refine blk_old ?_); exact kr, by repeat (first | exact Below.refl _ _ | assumption | apply bl_alloc | apply bl_drewN | apply Below.drew | (refine bl_set ?_ (by first | exact Nat.le_refl _ | (simp; done) | (simp; omega)) _) | (refine bl_trans ?_ (by assumption)))⟩
      case round =>
        clear hk kr hc0 hc1 hc2 kr0 kr1 kr2 kf0 kf1 kf2
        obtain ⟨j, hj, hgj, rfl, hown, kx, kr, hb⟩ := hrel
        obtain ⟨x0, x1, x2, xl⟩ := row_three kx
        have HGK := Lib.hid hgj
        clear hgj
        have hlen := raiseTo_len hs y j
        by_cases hlt : j < hs.length
        · obtain ⟨b, off, rfl, hbl, hcell⟩ := HA.out (by rw [ints_len]; omega)
          have h1 := (hb.cell (p := ⟨b, off + j, none⟩) hbl).trans (hcell j (by rw [ints_len]; exact hlt))
          rw [ints_get hs j hlt] at h1
          have HLN := Lib.hid hlen
          clear hcell hlen
          by_cases hv : y < gt hs j
          · have HS := Lib.hid (show raiseTo hs y (j + 1) = raiseTo hs y j ++ [gt hs j] by rw [raiseTo, mx_gt hv])
            go_wp2_with (at_builtin; refine wpList_append_own _ rfl _ _ 23 rfl (w.heap.size + 2) 2 i0 (.int .i64 0) 1 8 Try.underlying23 hi hz0 hz1 hz2 rfl (by decide) _ _ _ rfl (hown.alloc _) ⟨wr.heap.size, 0, none⟩ 1 1 [.int .i64 (gt hs j)] rfl rfl (by first | exact app_news (heap_alloc_new _ _) | exact app_news (heap_alloc_new wr _)) (app_one _) (by have := HLN.out; unfold maxLen; omega) (by have := HLN.out; omega) (by have := hb.size; simp; omega) ?_; intro v' w1 hown' hgrow _)
            have R1 := Lib.hid (app_own hown' HS.out)
            have R2 := Lib.hid (app_belowB (bl_alloc hb _) (hown.alloc _) (by omega) hgrow)
            have R3 := Lib.hid (app_keep (hown.alloc _) hgrow (blk_old kx) (by omega))
            have R4 := Lib.hid (app_keep (hown.alloc _) hgrow (blk_old kr) (by omega))
            go_roundg (hs.length - (j + 1))
            case measure => rw [HGK.out]; omega
            case rel => exact ⟨j + 1, by omega, rfl, by go_num, R1.out, R3.out, R4.out, R2.out⟩
          · have HS := Lib.hid (show raiseTo hs y (j + 1) = raiseTo hs y j ++ [y] by rw [raiseTo, mx_le hv])
            by_cases hv2 : gt hs j < y
            · go_wp2_with (at_builtin; refine wpList_append_own _ rfl _ _ 23 rfl (w.heap.size + 2) 2 i0 (.int .i64 0) 1 8 Try.underlying23 hi hz0 hz1 hz2 rfl (by decide) _ _ _ rfl (hown.alloc _) ⟨wr.heap.size, 0, none⟩ 1 1 [.int .i64 y] rfl rfl (by first | exact app_news (heap_alloc_new _ _) | exact app_news (heap_alloc_new wr _)) (app_one _) (by have := HLN.out; unfold maxLen; omega) (by have := HLN.out; omega) (by have := hb.size; simp; omega) ?_; intro v' w1 hown' hgrow _)
              have R1 := Lib.hid (app_own hown' HS.out)
              have R2 := Lib.hid (app_belowB (bl_alloc hb _) (hown.alloc _) (by omega) hgrow)
              have R3 := Lib.hid (app_keep (hown.alloc _) hgrow (blk_old kx) (by omega))
              have R4 := Lib.hid (app_keep (hown.alloc _) hgrow (blk_old kr) (by omega))
              go_roundg (hs.length - (j + 1))
              case measure => rw [HGK.out]; omega
              case rel => exact ⟨j + 1, by omega, rfl, by go_num, R1.out, R3.out, R4.out, R2.out⟩
            · have HE := Lib.hid (show gt hs j = y by omega)
              go_wp2_with (at_builtin; refine wpList_append_own _ rfl _ _ 23 rfl (w.heap.size + 2) 2 i0 (.int .i64 0) 1 8 Try.underlying23 hi hz0 hz1 hz2 rfl (by decide) _ _ _ rfl (hown.alloc _) ⟨wr.heap.size, 0, none⟩ 1 1 [.int .i64 (gt hs j)] rfl rfl (by first | exact app_news (heap_alloc_new _ _) | exact app_news (heap_alloc_new wr _)) (app_one _) (by have := HLN.out; unfold maxLen; omega) (by have := HLN.out; omega) (by have := hb.size; simp; omega) ?_; intro v' w1 hown' hgrow _)
              have R1 := Lib.hid (app_own (zs := raiseTo hs y (j + 1)) hown' (by rw [HE.out]; exact HS.out))
              have R2 := Lib.hid (app_belowB (bl_alloc hb _) (hown.alloc _) (by omega) hgrow)
              have R3 := Lib.hid (app_keep (hown.alloc _) hgrow (blk_old kx) (by omega))
              have R4 := Lib.hid (app_keep (hown.alloc _) hgrow (blk_old kr) (by omega))
              go_roundg (hs.length - (j + 1))
              case measure => rw [HGK.out]; omega
              case rel => exact ⟨j + 1, by omega, rfl, by go_num, R1.out, R3.out, R4.out, R2.out⟩
        · obtain rfl : j = hs.length := by omega
          have HLN := Lib.hid hlen
          clear hlen
          obtain ⟨A1, k4, hv, ho⟩ := own_endB hown
          have HO := Lib.hid ho
          have HBW := Lib.hid hb
          rw [hv]
          clear hv hown ho
          go_wp2
          go_region_held3 (fun w' => w'.cell? ⟨w.heap.size, 0, none⟩ = some (.int .i64 r) ∧ w'.cell? ⟨w.heap.size, 1, none⟩ = some (.int .i64 c) ∧ w'.cell? ⟨w.heap.size, 2, none⟩ = some (.slice A hs.length k)) (((try dsimp only); refine ⟨?_, ?_, ?_⟩ <;> (repeat (first | with_reducible assumption | with_reducible refine kc_drew ?_ | with_reducible refine kc_drewN ?_ | with_reducible refine kc_alloc ?_ | with_reducible refine kc_set ?_ (by first | omega | (simp; done) | (simp; omega)))))) (first | (go_at_call 68; refine (volume_any _ _ _ _ _ _ _ (HA.out.below (by repeat (first | exact Below.refl _ _ | assumption | apply bl_alloc | apply bl_drewN | apply Below.drew | (refine bl_set ?_ (by first | exact Nat.le_refl _ | (simp; done) | (simp; omega)) _) | (refine bl_trans ?_ (by assumption))))) hm L0.out.2.2.2.2.2 L0.out.2.2.2.2.1 (by omega)).mono ?_; rintro e w2 ⟨rfl, hb2⟩; have kx2 : w2.heap[w.heap.size]? = some (.cells #[.int .i64 r, .int .i64 c, .slice A hs.length k] 40 (0, 0)) := keep_blk (hb := hb2) (h := blk_drew kx); have kr2 : w2.heap[w.heap.size + 1]? = some (.cells #[.int .i64 0, .int .i64 0, .slice none 0 0] 40 (0, 0)) := keep_blk (hb := hb2) (h := blk_drew kr); obtain ⟨x0, x1, x2, xl⟩ := row_three kx2; obtain ⟨y0, y1, y2, yf0, yf1, yf2, yl⟩ := cells_three kr2 (Below.refl _ _)))
          go_wp2
          refine bodyPost_ret (v := .tuple #[.agg #[.int .i64 r, .int .i64 c, .slice A1 (raiseTo hs y hs.length).length k4], .int .i64 (volTo hs y hs.length), .int .i64 0]) (by simp [results, Try.results41, go_sem, y0, y1, y2]) rfl ?_
          rw [H.out.1, H.out.2.1, H.out.2.2.1, H.out.2.2.2.1, H.out.2.2.2.2]
          have s2 : Below wr.heap.size wr w2 := by repeat (first | exact Below.refl _ _ | assumption | apply bl_alloc | apply bl_drewN | apply Below.drew | (refine bl_set ?_ (by first | exact Nat.le_refl _ | (simp; done) | (simp; omega)) _) | (refine bl_trans ?_ (by assumption)))
          have z2 := s2.size
          exact ⟨A1, k4, rfl, ((((HO.out.below s2).far (.inl (by first | exact Nat.le_refl _ | omega | (simp; done) | (simp; omega))) _).far (.inl (by first | exact Nat.le_refl _ | omega | (simp; done) | (simp; omega))) _).far (.inl (by first | exact Nat.le_refl _ | omega | (simp; done) | (simp; omega))) _).wide (by first | exact Nat.le_refl _ | omega | (simp; done) | (simp; omega)) (by first | exact Nat.le_refl _ | omega | (simp; done) | (simp; omega)), by repeat (first | exact Below.refl _ _ | assumption | apply bl_alloc | apply bl_drewN | apply Below.drew | (refine bl_set ?_ (by first | exact Nat.le_refl _ | (simp; done) | (simp; omega)) _) | (refine bl_trans ?_ (by assumption)))⟩
set_option maxHeartbeats 1600000 in
theorem specRaise (w : World) (r c : Int) (A : Option Addr) (k : Nat) (hs : List Int) (y : Int) (hA : RC w A (ints hs)) (hm : hs.length ≤ 1048576) : Calls Try.prog 40 #[.agg #[.int .i64 r, .int .i64 c, .slice A hs.length k], .int .i64 y] w (NewLandCC (raX r c hs y r) (raX r c hs y c) (raL r c hs y) (volV r c hs y) (levelC r c hs y) w) := by
  have HA := Lib.hid hA
  clear hA
  cases k0 : landOk r c hs
  · skip
    have H := Lib.hid (ra_resno (levelC_1 (y := y) k0) (by omega))
    have hcc := H.out.2.2.2.2
    go_enter Try.func40, Try.ntmps40
    go_wp2_with ((go_at_call 80; refine (l03Level_any _ _ r c _ k hs y (by simp [go_sem]) (by simp [go_sem]) (by simp [go_sem]) (HA.out.below (by repeat (first | exact Below.refl _ _ | assumption | apply bl_alloc | apply bl_drewN | apply Below.drew | (refine bl_set ?_ (by first | exact Nat.le_refl _ | (simp; done) | (simp; omega)) _) | (refine bl_trans ?_ (by assumption))))) hm).mono ?_; rintro e w' ⟨rfl, dd, rfl⟩))
    refine bodyPost_ret (v := .tuple #[.agg #[.int .i64 0, .int .i64 0, .slice none 0 0], .int .i64 0, .int .i64 1]) (by simp [results, Try.results40, go_sem]) rfl ?_
    rw [H.out.1, H.out.2.1, H.out.2.2.1, H.out.2.2.2.1, H.out.2.2.2.2]
    exact ⟨none, 0, rfl, OwnC.nil _ _ _ _, by repeat (first | exact Below.refl _ _ | assumption | apply bl_alloc | apply bl_drewN | apply Below.drew | (refine bl_set ?_ (by first | exact Nat.le_refl _ | (simp; done) | (simp; omega)) _) | (refine bl_trans ?_ (by assumption)))⟩
  · cases k1 : lvl y
    · skip
      have H := Lib.hid (ra_resno (levelC_2 k0 k1) (by omega))
      have hcc := H.out.2.2.2.2
      go_enter Try.func40, Try.ntmps40
      go_wp2_with ((go_at_call 80; refine (l03Level_any _ _ r c _ k hs y (by simp [go_sem]) (by simp [go_sem]) (by simp [go_sem]) (HA.out.below (by repeat (first | exact Below.refl _ _ | assumption | apply bl_alloc | apply bl_drewN | apply Below.drew | (refine bl_set ?_ (by first | exact Nat.le_refl _ | (simp; done) | (simp; omega)) _) | (refine bl_trans ?_ (by assumption))))) hm).mono ?_; rintro e w' ⟨rfl, dd, rfl⟩))
      refine bodyPost_ret (v := .tuple #[.agg #[.int .i64 0, .int .i64 0, .slice none 0 0], .int .i64 0, .int .i64 2]) (by simp [results, Try.results40, go_sem]) rfl ?_
      rw [H.out.1, H.out.2.1, H.out.2.2.1, H.out.2.2.2.1, H.out.2.2.2.2]
      exact ⟨none, 0, rfl, OwnC.nil _ _ _ _, by repeat (first | exact Below.refl _ _ | assumption | apply bl_alloc | apply bl_drewN | apply Below.drew | (refine bl_set ?_ (by first | exact Nat.le_refl _ | (simp; done) | (simp; omega)) _) | (refine bl_trans ?_ (by assumption)))⟩
    · have H := Lib.hid (ra_resyes (levelC_0 k0 k1))
      have hcc := H.out.2.2.2.2
      have L0 := Lib.hid (landOk_of k0)
      have hy := lvl_of k1
      have h144 := L0.out.2.2.2.2.1
      have hn1 := L0.out.2.2.2.1
      go_enter Try.func40, Try.ntmps40
      go_wp2_with (first | (go_at_call 80; refine (l03Level_any _ _ r c _ k hs y (by simp [go_sem]) (by simp [go_sem]) (by simp [go_sem]) (HA.out.below (by repeat (first | exact Below.refl _ _ | assumption | apply bl_alloc | apply bl_drewN | apply Below.drew | (refine bl_set ?_ (by first | exact Nat.le_refl _ | (simp; done) | (simp; omega)) _) | (refine bl_trans ?_ (by assumption))))) hm).mono ?_; rintro e w' ⟨rfl, dd, rfl⟩) | fail)
      refine (l03Own_any _ w.heap.size r c _ k hs (by simp [go_sem]) (by simp [go_sem]) (by simp [go_sem]) (by simp; omega) (HA.out.below (by repeat (first | exact Below.refl _ _ | assumption | apply bl_alloc | apply bl_drewN | apply Below.drew | (refine bl_set ?_ (by first | exact Nat.le_refl _ | (simp; done) | (simp; omega)) _) | (refine bl_trans ?_ (by assumption))))) hm hn1).mono ?_
      rintro e w2 ⟨A1, k4, rfl, ho, hb2⟩
      have kx : w2.heap[w.heap.size]? = some (.cells #[.int .i64 r, .int .i64 c, .slice A hs.length k] 40 (0, 0)) := keep_blk (hb := hb2) (h := by repeat (first | (refine blk_new ?_; (first | rfl | (simp; done) | (simp; omega))) | refine blk_drewN ?_ | refine blk_old ?_))
      have kr : w2.heap[w.heap.size + 1]? = some (.cells #[.int .i64 0, .int .i64 0, .slice none 0 0] 40 (0, 0)) := keep_blk (hb := hb2) (h := by repeat (first | (refine blk_new ?_; (first | rfl | (simp; done) | (simp; omega))) | refine blk_drewN ?_ | refine blk_old ?_))
      obtain ⟨g, cur, T, rfl, g1, g2, hg, hc⟩ := ho (by rw [ints_len]; omega)
      have glo : w.heap.size + 2 ≤ g := by simpa using g1
      have B2 := Lib.hid (show Below w.heap.size w w2 by repeat (first | exact Below.refl _ _ | assumption | apply bl_alloc | apply bl_drewN | apply Below.drew | (refine bl_set ?_ (by first | exact Nat.le_refl _ | (simp; done) | (simp; omega)) _) | (refine bl_trans ?_ (by assumption))))
      have HU := Lib.hid (show OwnC (w.heap.size + 2) w2.heap.size w2 (some ⟨g, 0, none⟩) (ints (upTo hs y 0)) from fun _ => ⟨g, cur, T, rfl, glo, g2, hg, hc⟩)
      have z2 := (show Below w.heap.size w w2 by repeat (first | exact Below.refl _ _ | assumption | apply bl_alloc | apply bl_drewN | apply Below.drew | (refine bl_set ?_ (by first | exact Nat.le_refl _ | (simp; done) | (simp; omega)) _) | (refine bl_trans ?_ (by assumption)))).size
      clear ho hg hc hb2 g1
      have HX := Lib.hid kx
      have HR := Lib.hid kr
      clear kx kr
      go_wp2
      go_loopg [9] hs.length (fun m i wr => ∃ j, j ≤ hs.length ∧ m = hs.length - j ∧ i = .int .i64 (j : Int) ∧ OwnC (w.heap.size + 2) wr.heap.size wr (some ⟨g, 0, none⟩) (ints (upTo hs y j)) ∧ wr.heap[w2.heap.size]? = some (.cells #[.int .i64 r, .int .i64 c, .slice (some ⟨g, 0, none⟩) hs.length k4] 40 (0, 0)) ∧ wr.heap[w.heap.size]? = some (.cells #[.int .i64 r, .int .i64 c, .slice A hs.length k] 40 (0, 0)) ∧ wr.heap[w.heap.size + 1]? = some (.cells #[.int .i64 0, .int .i64 0, .slice none 0 0] 40 (0, 0)) ∧ Below w.heap.size w wr ∧ w2.heap.size < wr.heap.size)
      case atStart =>
        exact ⟨0, Nat.zero_le _, by omega, rfl, (HU.out.alloc _).wide (Nat.le_refl _) (by simp), by repeat (first | (refine blk_new ?_; (first | rfl | (simp; done) | (simp; omega))) | refine blk_drewN ?_ | refine blk_old ?_), blk_old HX.out, blk_old HR.out, bl_alloc B2.out _, by simp⟩
      case round =>
        clear HU HX HR
        obtain ⟨j, hj, hgj, rfl, ho, kz, kx, kr, hb, zw⟩ := hrel
        obtain ⟨g', cur, T, hg', gl1, gl2, hg, hc⟩ := ho (by rw [ints_len, upTo_len]; omega)
        cases hg'
        obtain ⟨x0, x1, x2, xl⟩ := row_three kx
        obtain ⟨u0, u1, u2, ul⟩ := row_three kz
        have HGK := Lib.hid hgj
        have HC := Lib.hid hc
        clear hgj hc
        by_cases hlt : j < hs.length
        · have f1 : wr.cell? ⟨g, j, none⟩ = some (.int .i64 (gt hs j)) := by
            rw [cell_of_row wr g j cur T (0, 0) hg, HC.out j (by rw [ints_len, upTo_len]; exact hlt), ints_get _ _ (by rw [upTo_len]; exact hlt), gt_upTo _ _ _ _ hj, if_neg (Nat.lt_irrefl _)]
          have f2 : wr.frozen? ⟨g, j, none⟩ = false := frozen_of_row wr g j cur T hg
          have SU := Lib.hid ((own_set (B := w.heap.size + 2) (E := wr.heap.size) (i := j) (mx (gt hs j) y) gl1 gl2 hg HC.out (by rw [upTo_len]; exact hlt)))
          have HG := Lib.hid hg
          clear hg
          go_wp2
          go_region_with (go_at_call 56; refine (l00Max_any _ _ _).mono ?_; rintro e w' ⟨rfl, rfl⟩)
          all_goals go_wp2
          all_goals go_roundg (hs.length - (j + 1))
          all_goals first | (rw [HGK.out]; omega) | (have hne := g2; exact ⟨j + 1, by omega, rfl, by go_num, by first | exact SU.out.wide (Nat.le_refl _) (by simp) | exact (SU.out.wide (Nat.le_refl _) (by simp)).drew | exact (SU.out.wide (Nat.le_refl _) (by simp)).drewN _, by first | exact kb_set kz (by simp; omega) | exact blk_drew (kb_set kz (by simp; omega)), by first | exact kb_set kx (by simp; omega) | exact blk_drew (kb_set kx (by simp; omega)), by first | exact kb_set kr (by simp; omega) | exact blk_drew (kb_set kr (by simp; omega)), by repeat (first | exact Below.refl _ _ | assumption | apply bl_alloc | apply bl_drewN | apply Below.drew | (refine bl_set ?_ (by first | exact Nat.le_refl _ | (simp; done) | (simp; omega)) _) | (refine bl_trans ?_ (by assumption))), by simp; omega⟩)
        · obtain rfl : j = hs.length := by omega
          have O1 := Lib.hid ho
          have HB := Lib.hid hb
          have HKZ := Lib.hid kz
          clear hg
          obtain ⟨y0, y1, y2, yf0, yf1, yf2, yl⟩ := cells_three kr (Below.refl _ _)
          go_wp2
          go_region_held3 (fun w' => w'.cell? ⟨w2.heap.size, 0, none⟩ = some (.int .i64 r) ∧ w'.cell? ⟨w2.heap.size, 1, none⟩ = some (.int .i64 c) ∧ w'.cell? ⟨w2.heap.size, 2, none⟩ = some (.slice (some ⟨g, 0, none⟩) hs.length k4)) (((try dsimp only); refine ⟨?_, ?_, ?_⟩ <;> (repeat (first | with_reducible assumption | with_reducible refine kc_drew ?_ | with_reducible refine kc_drewN ?_ | with_reducible refine kc_alloc ?_ | with_reducible refine kc_set ?_ (by first | omega | (simp; done) | (simp; omega)))))) (first | (go_at_call 64; refine (l03Volume_any _ _ _ k hs _ (by first | exact x2 | (simp [go_sem])) (HA.out.below (by repeat (first | exact Below.refl _ _ | assumption | apply bl_alloc | apply bl_drewN | apply Below.drew | (refine bl_set ?_ (by first | exact Nat.le_refl _ | (simp; done) | (simp; omega)) _) | (refine bl_trans ?_ (by assumption))))) hm L0.out.2.2.2.2.2 L0.out.2.2.2.2.1 (by omega)).mono ?_; rintro e w' ⟨rfl, rfl⟩))
          go_wp2
          refine bodyPost_ret (v := .tuple #[.agg #[.int .i64 r, .int .i64 c, .slice (some ⟨g, 0, none⟩) hs.length k4], .int .i64 (volTo hs y hs.length), .int .i64 0]) (by simp [results, Try.results40, go_sem, y0, y1, y2]) rfl ?_
          rw [H.out.1, H.out.2.1, H.out.2.2.1, H.out.2.2.2.1, H.out.2.2.2.2, ← upTo_end]
          exact ⟨some ⟨g, 0, none⟩, k4, by rw [upTo_len], (((((O1.out.drewN 1).far (.inl (by first | exact Nat.le_refl _ | omega | (simp; done) | (simp; omega))) _).far (.inl (by first | exact Nat.le_refl _ | omega | (simp; done) | (simp; omega))) _).far (.inl (by first | exact Nat.le_refl _ | omega | (simp; done) | (simp; omega))) _)).wide (by first | exact Nat.le_refl _ | omega | (simp; done) | (simp; omega)) (by first | exact Nat.le_refl _ | omega | (simp; done) | (simp; omega)), by have hb := HB.out; repeat (first | exact Below.refl _ _ | assumption | apply bl_alloc | apply bl_drewN | apply Below.drew | (refine bl_set ?_ (by first | exact Nat.le_refl _ | (simp; done) | (simp; omega)) _) | (refine bl_trans ?_ (by assumption)))⟩
end Go.Proofs.Ytnhdhjijdcdilaa
