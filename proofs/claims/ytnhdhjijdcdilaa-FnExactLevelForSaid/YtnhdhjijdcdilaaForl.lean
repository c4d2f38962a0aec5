/-
  Contracts on lands, the fourth part: the least level with a volume, the lowest cells. They hold for every land of at most 1048576 heights.
-/
import Derived.Test.YtnhdhjijdcdilaaLand3
import Derived.Test.YtnhdhjijdcdilaaForPlain
import Derived.Test.YtnhdhjijdcdilaaFrac
namespace Go.Proofs.Ytnhdhjijdcdilaa
open Go.RowKit

set_option maxHeartbeats 1600000 in
theorem implLevelFor (w : World) (r c : Int) (A : Option Addr) (k : Nat) (hs : List Int) (v : Int) (hA : RC w A (ints hs)) (hm : hs.length ≤ 1048576) : Calls Try.prog 31 #[.agg #[.int .i64 r, .int .i64 c, .slice A hs.length k], .int .i64 v] w fun e w' => e = .returned (.tuple #[.int .i64 (lfV r c hs v), .int .i64 (lfC r c hs v)]) ∧ Below w.heap.size w w' := by
  have HA := Lib.hid hA
  clear hA
  cases k0 : landOk r c hs
  · have H := Lib.hid (lf_bad1 (v := v) k0)
    go_enter Try.func31, Try.ntmps31
    go_wp2_with (first | (go_at_call 66; refine (implValidLand _ _ _ _ _ _ (HA.out.below (by repeat (first | exact Below.refl _ _ | assumption | apply bl_alloc | apply bl_drewN | apply Below.drew | (refine bl_set ?_ (by first | exact Nat.le_refl _ | (simp; done) | (simp; omega)) _) | (refine bl_trans ?_ (by assumption))))) hm).mono ?_; rintro e w1 ⟨rfl, hb1⟩; have hk := keep_blk (hb := hb1) (h := by first | exact hk | exact heap_alloc_new _ _ | (repeat (first | (refine blk_new ?_; (first | rfl | (simp; done) | (simp; omega))) | refine blk_drewN ?_ | refine blk_old ?_))); obtain ⟨hc0, hc1, hc2, hlt⟩ := row_three hk) | (go_at_call 67; refine (isShared_any _ _).mono ?_; rintro e w' ⟨rfl, rfl⟩))
    go_ret2
    exact ⟨ret_two H.out.1.symm H.out.2.symm, by repeat (first | exact Below.refl _ _ | assumption | apply bl_alloc | apply bl_drewN | apply Below.drew | (refine bl_set ?_ (by first | exact Nat.le_refl _ | (simp; done) | (simp; omega)) _) | (refine bl_trans ?_ (by assumption)))⟩
  · cases k1 : sharedB v
    · have H := Lib.hid (lf_bad2 k0 k1)
      go_enter Try.func31, Try.ntmps31
      go_wp2_with (first | (go_at_call 66; refine (implValidLand _ _ _ _ _ _ (HA.out.below (by repeat (first | exact Below.refl _ _ | assumption | apply bl_alloc | apply bl_drewN | apply Below.drew | (refine bl_set ?_ (by first | exact Nat.le_refl _ | (simp; done) | (simp; omega)) _) | (refine bl_trans ?_ (by assumption))))) hm).mono ?_; rintro e w1 ⟨rfl, hb1⟩; have hk := keep_blk (hb := hb1) (h := by first | exact hk | exact heap_alloc_new _ _ | (repeat (first | (refine blk_new ?_; (first | rfl | (simp; done) | (simp; omega))) | refine blk_drewN ?_ | refine blk_old ?_))); obtain ⟨hc0, hc1, hc2, hlt⟩ := row_three hk) | (go_at_call 67; refine (isShared_any _ _).mono ?_; rintro e w' ⟨rfl, rfl⟩))
      go_ret2
      exact ⟨ret_two H.out.1.symm H.out.2.symm, by repeat (first | exact Below.refl _ _ | assumption | apply bl_alloc | apply bl_drewN | apply Below.drew | (refine bl_set ?_ (by first | exact Nat.le_refl _ | (simp; done) | (simp; omega)) _) | (refine bl_trans ?_ (by assumption)))⟩
    · have L0 := Lib.hid (landOk_of k0)
      by_cases hv : v ≤ volTo hs 2000 hs.length
      · have H := Lib.hid (lf_ok k0 k1 hv)
        have HR := Lib.hid (forOf_spec hv)
        have y0 := HR.out.lo
        have y1 := HR.out.hi
        clear hv
        generalize forOf hs v = q at *
        go_enter Try.func31, Try.ntmps31
        go_wp2_with (first | (go_at_call 66; refine (implValidLand _ _ _ _ _ _ (HA.out.below (by repeat (first | exact Below.refl _ _ | assumption | apply bl_alloc | apply bl_drewN | apply Below.drew | (refine bl_set ?_ (by first | exact Nat.le_refl _ | (simp; done) | (simp; omega)) _) | (refine bl_trans ?_ (by assumption))))) hm).mono ?_; rintro e w1 ⟨rfl, hb1⟩; have hk := keep_blk (hb := hb1) (h := by first | exact hk | exact heap_alloc_new _ _ | (repeat (first | (refine blk_new ?_; (first | rfl | (simp; done) | (simp; omega))) | refine blk_drewN ?_ | refine blk_old ?_))); obtain ⟨hc0, hc1, hc2, hlt⟩ := row_three hk) | (go_at_call 67; refine (isShared_any _ _).mono ?_; rintro e w' ⟨rfl, rfl⟩))
        go_loopg [6] (q + 2000).toNat (fun m i wr => ∃ lo : Int, -2000 ≤ lo ∧ lo ≤ q ∧ m = (q - lo).toNat ∧ i = .int .i64 lo ∧ wr.heap[w.heap.size]? = some (.cells #[.int .i64 r, .int .i64 c, .slice A hs.length k] 40 (0, 0)) ∧ Below w.heap.size w wr)
        case atStart => exact ⟨-2000, Int.le_refl _, y0, by omega, rfl, by first | exact hk | (repeat (first | (refine blk_new ?_; (first | rfl | (simp; done) | (simp; omega))) | refine blk_drewN ?_ | refine blk_old ?_)), by repeat (first | exact Below.refl _ _ | assumption | apply bl_alloc | apply bl_drewN | apply Below.drew | (refine bl_set ?_ (by first | exact Nat.le_refl _ | (simp; done) | (simp; omega)) _) | (refine bl_trans ?_ (by assumption)))⟩
        case round =>
          obtain ⟨lo, h1, h2, hgj, rfl, kx, hb⟩ := hrel
          obtain ⟨x0, x1, x2, xl⟩ := row_three kx
          have HGK := Lib.hid hgj
          clear hgj
          by_cases hlt : lo < q
          · have h3 := isFor_below HR.out h1 hlt
            go_wp2_with ((go_at_call 68; refine (volume_any _ _ _ _ _ _ _ (HA.out.below (by repeat (first | exact Below.refl _ _ | assumption | apply bl_alloc | apply bl_drewN | apply Below.drew | (refine bl_set ?_ (by first | exact Nat.le_refl _ | (simp; done) | (simp; omega)) _) | (refine bl_trans ?_ (by assumption))))) hm L0.out.2.2.2.2.2 L0.out.2.2.2.2.1 (by omega)).mono ?_; rintro e w1 ⟨rfl, hb1⟩; have kx := keep_blk (hb := hb1) (h := by first | exact kx | (repeat (first | (refine blk_new ?_; (first | rfl | (simp; done) | (simp; omega))) | refine blk_drewN ?_ | refine blk_old ?_))); obtain ⟨x0, x1, x2, xl⟩ := row_three kx))
            go_roundg (q - (lo + 1)).toNat
            case measure => rw [HGK.out]; omega
            case rel => exact ⟨lo + 1, by omega, by omega, rfl, rfl, kx, by repeat (first | exact Below.refl _ _ | assumption | apply bl_alloc | apply bl_drewN | apply Below.drew | (refine bl_set ?_ (by first | exact Nat.le_refl _ | (simp; done) | (simp; omega)) _) | (refine bl_trans ?_ (by assumption)))⟩
          · obtain rfl : lo = q := by omega
            have h3 := isFor_from HR.out (Int.le_refl _)
            go_wp2_with ((go_at_call 68; refine (volume_any _ _ _ _ _ _ _ (HA.out.below (by repeat (first | exact Below.refl _ _ | assumption | apply bl_alloc | apply bl_drewN | apply Below.drew | (refine bl_set ?_ (by first | exact Nat.le_refl _ | (simp; done) | (simp; omega)) _) | (refine bl_trans ?_ (by assumption))))) hm L0.out.2.2.2.2.2 L0.out.2.2.2.2.1 (by omega)).mono ?_; rintro e w1 ⟨rfl, hb1⟩; have kx := keep_blk (hb := hb1) (h := by first | exact kx | (repeat (first | (refine blk_new ?_; (first | rfl | (simp; done) | (simp; omega))) | refine blk_drewN ?_ | refine blk_old ?_))); obtain ⟨x0, x1, x2, xl⟩ := row_three kx))
            go_ret2
            exact ⟨ret_two H.out.1.symm H.out.2.symm, by repeat (first | exact Below.refl _ _ | assumption | apply bl_alloc | apply bl_drewN | apply Below.drew | (refine bl_set ?_ (by first | exact Nat.le_refl _ | (simp; done) | (simp; omega)) _) | (refine bl_trans ?_ (by assumption)))⟩
      · have H := Lib.hid (lf_bad3 k0 k1 hv)
        go_enter Try.func31, Try.ntmps31
        go_wp2_with (first | (go_at_call 66; refine (implValidLand _ _ _ _ _ _ (HA.out.below (by repeat (first | exact Below.refl _ _ | assumption | apply bl_alloc | apply bl_drewN | apply Below.drew | (refine bl_set ?_ (by first | exact Nat.le_refl _ | (simp; done) | (simp; omega)) _) | (refine bl_trans ?_ (by assumption))))) hm).mono ?_; rintro e w1 ⟨rfl, hb1⟩; have hk := keep_blk (hb := hb1) (h := by first | exact hk | exact heap_alloc_new _ _ | (repeat (first | (refine blk_new ?_; (first | rfl | (simp; done) | (simp; omega))) | refine blk_drewN ?_ | refine blk_old ?_))); obtain ⟨hc0, hc1, hc2, hlt⟩ := row_three hk) | (go_at_call 67; refine (isShared_any _ _).mono ?_; rintro e w' ⟨rfl, rfl⟩))
        go_loopg [6] 4001 (fun m i wr => ∃ lo : Int, -2000 ≤ lo ∧ lo ≤ 2001 ∧ m = (2001 - lo).toNat ∧ i = .int .i64 lo ∧ wr.heap[w.heap.size]? = some (.cells #[.int .i64 r, .int .i64 c, .slice A hs.length k] 40 (0, 0)) ∧ Below w.heap.size w wr)
        case atStart => exact ⟨-2000, Int.le_refl _, by omega, by omega, rfl, by first | exact hk | (repeat (first | (refine blk_new ?_; (first | rfl | (simp; done) | (simp; omega))) | refine blk_drewN ?_ | refine blk_old ?_)), by repeat (first | exact Below.refl _ _ | assumption | apply bl_alloc | apply bl_drewN | apply Below.drew | (refine bl_set ?_ (by first | exact Nat.le_refl _ | (simp; done) | (simp; omega)) _) | (refine bl_trans ?_ (by assumption)))⟩
        case round =>
          obtain ⟨lo, h1, h2, hgj, rfl, kx, hb⟩ := hrel
          obtain ⟨x0, x1, x2, xl⟩ := row_three kx
          have HGK := Lib.hid hgj
          clear hgj
          by_cases hlt : lo ≤ 2000
          · have h3 := volTo_mono (hs := hs) hlt hs.length
            go_wp2_with ((go_at_call 68; refine (volume_any _ _ _ _ _ _ _ (HA.out.below (by repeat (first | exact Below.refl _ _ | assumption | apply bl_alloc | apply bl_drewN | apply Below.drew | (refine bl_set ?_ (by first | exact Nat.le_refl _ | (simp; done) | (simp; omega)) _) | (refine bl_trans ?_ (by assumption))))) hm L0.out.2.2.2.2.2 L0.out.2.2.2.2.1 (by omega)).mono ?_; rintro e w1 ⟨rfl, hb1⟩; have kx := keep_blk (hb := hb1) (h := by first | exact kx | (repeat (first | (refine blk_new ?_; (first | rfl | (simp; done) | (simp; omega))) | refine blk_drewN ?_ | refine blk_old ?_))); obtain ⟨x0, x1, x2, xl⟩ := row_three kx))
            go_roundg (2001 - (lo + 1)).toNat
            case measure => rw [HGK.out]; omega
            case rel => exact ⟨lo + 1, by omega, by omega, rfl, rfl, kx, by repeat (first | exact Below.refl _ _ | assumption | apply bl_alloc | apply bl_drewN | apply Below.drew | (refine bl_set ?_ (by first | exact Nat.le_refl _ | (simp; done) | (simp; omega)) _) | (refine bl_trans ?_ (by assumption)))⟩
          · go_wp2
            go_ret2
            exact ⟨ret_two H.out.1.symm H.out.2.symm, by repeat (first | exact Below.refl _ _ | assumption | apply bl_alloc | apply bl_drewN | apply Below.drew | (refine bl_set ?_ (by first | exact Nat.le_refl _ | (simp; done) | (simp; omega)) _) | (refine bl_trans ?_ (by assumption)))⟩
set_option maxHeartbeats 1600000 in
theorem specLevelFor (w : World) (r c : Int) (A : Option Addr) (k : Nat) (hs : List Int) (v : Int) (hA : RC w A (ints hs)) (hm : hs.length ≤ 1048576) : Calls Try.prog 30 #[.agg #[.int .i64 r, .int .i64 c, .slice A hs.length k], .int .i64 v] w fun e w' => e = .returned (.tuple #[.int .i64 (lfV r c hs v), .int .i64 (lfC r c hs v)]) ∧ Below w.heap.size w w' := by
  have HA := Lib.hid hA
  clear hA
  cases k0 : landOk r c hs
  · have H := Lib.hid (lf_bad1 (v := v) k0)
    go_enter Try.func30, Try.ntmps30
    go_wp2_with ((go_at_call 62; refine (l03Ok_any _ _ r c _ k hs (by simp [go_sem]) (by simp [go_sem]) (by simp [go_sem]) (HA.out.below (by repeat (first | exact Below.refl _ _ | assumption | apply bl_alloc | apply bl_drewN | apply Below.drew | (refine bl_set ?_ (by first | exact Nat.le_refl _ | (simp; done) | (simp; omega)) _) | (refine bl_trans ?_ (by assumption))))) hm).mono ?_; rintro e w' ⟨rfl, dd, rfl⟩))
    go_ret2
    exact ⟨ret_two H.out.1.symm H.out.2.symm, by repeat (first | exact Below.refl _ _ | assumption | apply bl_alloc | apply bl_drewN | apply Below.drew | (refine bl_set ?_ (by first | exact Nat.le_refl _ | (simp; done) | (simp; omega)) _) | (refine bl_trans ?_ (by assumption)))⟩
  · cases k1 : sharedB v
    · have H := Lib.hid (lf_bad2 k0 k1)
      unfold sharedB at k1
      go_enter Try.func30, Try.ntmps30
      go_wp2_with (first | (go_at_call 62; refine (l03Ok_any _ _ r c _ k hs (by simp [go_sem]) (by simp [go_sem]) (by simp [go_sem]) (HA.out.below (by repeat (first | exact Below.refl _ _ | assumption | apply bl_alloc | apply bl_drewN | apply Below.drew | (refine bl_set ?_ (by first | exact Nat.le_refl _ | (simp; done) | (simp; omega)) _) | (refine bl_trans ?_ (by assumption))))) hm).mono ?_; rintro e w' ⟨rfl, dd, rfl⟩) | (go_at_call 63; refine (l00In_any _ _ _ _).mono ?_; rintro e w' ⟨rfl, rfl⟩))
      go_ret2
      exact ⟨ret_two H.out.1.symm H.out.2.symm, by repeat (first | exact Below.refl _ _ | assumption | apply bl_alloc | apply bl_drewN | apply Below.drew | (refine bl_set ?_ (by first | exact Nat.le_refl _ | (simp; done) | (simp; omega)) _) | (refine bl_trans ?_ (by assumption)))⟩
    · have L0 := Lib.hid (landOk_of k0)
      by_cases hv : v ≤ volTo hs 2000 hs.length
      · have H := Lib.hid (lf_ok k0 k1 hv)
        have HR := Lib.hid (forOf_spec hv)
        have y0 := HR.out.lo
        have y1 := HR.out.hi
        unfold sharedB at k1
        generalize forOf hs v = q at *
        go_enter Try.func30, Try.ntmps30
        go_wp2_with (first | (go_at_call 62; refine (l03Ok_any _ _ r c _ k hs (by simp [go_sem]) (by simp [go_sem]) (by simp [go_sem]) (HA.out.below (by repeat (first | exact Below.refl _ _ | assumption | apply bl_alloc | apply bl_drewN | apply Below.drew | (refine bl_set ?_ (by first | exact Nat.le_refl _ | (simp; done) | (simp; omega)) _) | (refine bl_trans ?_ (by assumption))))) hm).mono ?_; rintro e w' ⟨rfl, dd, rfl⟩) | (go_at_call 63; refine (l00In_any _ _ _ _).mono ?_; rintro e w' ⟨rfl, rfl⟩) | (go_at_call 64; refine (l03Volume_any _ _ _ k hs _ (by first | exact x2 | (simp [go_sem])) (HA.out.below (by repeat (first | exact Below.refl _ _ | assumption | apply bl_alloc | apply bl_drewN | apply Below.drew | (refine bl_set ?_ (by first | exact Nat.le_refl _ | (simp; done) | (simp; omega)) _) | (refine bl_trans ?_ (by assumption))))) hm L0.out.2.2.2.2.2 L0.out.2.2.2.2.1 (by omega)).mono ?_; rintro e w' ⟨rfl, rfl⟩))
        go_loopg [6, 7] 4001 (fun m a i wr => ∃ lo hi : Int, -2001 ≤ lo ∧ lo < q ∧ q ≤ hi ∧ hi ≤ 2000 ∧ m = (hi - lo).toNat ∧ a = .int .i64 lo ∧ i = .int .i64 hi ∧ wr.heap[w.heap.size]? = some (.cells #[.int .i64 r, .int .i64 c, .slice A hs.length k] 40 (0, 0)) ∧ Below w.heap.size w wr)
        case atStart => exact ⟨-2001, 2000, Int.le_refl _, by omega, by omega, Int.le_refl _, by omega, rfl, rfl, by repeat (first | (refine blk_new ?_; (first | rfl | (simp; done) | (simp; omega))) | refine blk_drewN ?_ | refine blk_old ?_), by repeat (first | exact Below.refl _ _ | assumption | apply bl_alloc | apply bl_drewN | apply Below.drew | (refine bl_set ?_ (by first | exact Nat.le_refl _ | (simp; done) | (simp; omega)) _) | (refine bl_trans ?_ (by assumption)))⟩
        case round =>
          obtain ⟨lo, hi, h1, h2, h3, h4, hgj, rfl, rfl, kx, hb⟩ := hrel
          obtain ⟨x0, x1, x2, xl⟩ := row_three kx
          have HGK := Lib.hid hgj
          clear hgj
          clear hv
          by_cases hlt : 1 < hi - lo
          · by_cases hv : v ≤ volTo hs ((lo + hi) / 2) hs.length
            · have hle : q ≤ (lo + hi) / 2 := by
                rcases Int.lt_or_le ((lo + hi) / 2) q with h5 | h5
                · have := isFor_below HR.out (by omega) h5
                  omega
                · exact h5
              go_wp2_with (first | (go_at_call 65; refine (l02Floor_any _ _ (by omega) (by omega) (by omega) _).mono ?_; rintro e w' ⟨rfl, rfl⟩) | (go_at_call 64; refine (l03Volume_any _ _ _ k hs _ (by first | exact x2 | (simp [go_sem])) (HA.out.below (by repeat (first | exact Below.refl _ _ | assumption | apply bl_alloc | apply bl_drewN | apply Below.drew | (refine bl_set ?_ (by first | exact Nat.le_refl _ | (simp; done) | (simp; omega)) _) | (refine bl_trans ?_ (by assumption))))) hm L0.out.2.2.2.2.2 L0.out.2.2.2.2.1 (by omega)).mono ?_; rintro e w' ⟨rfl, rfl⟩))
              go_roundg ((lo + hi) / 2 - lo).toNat
              case measure => rw [HGK.out]; omega
              case rel => exact ⟨lo, (lo + hi) / 2, h1, h2, hle, by omega, rfl, rfl, rfl, kx, by repeat (first | exact Below.refl _ _ | assumption | apply bl_alloc | apply bl_drewN | apply Below.drew | (refine bl_set ?_ (by first | exact Nat.le_refl _ | (simp; done) | (simp; omega)) _) | (refine bl_trans ?_ (by assumption)))⟩
            · have hle : (lo + hi) / 2 < q := by
                rcases Int.lt_or_le ((lo + hi) / 2) q with h5 | h5
                · exact h5
                · exact absurd (isFor_from HR.out h5) hv
              go_wp2_with (first | (go_at_call 65; refine (l02Floor_any _ _ (by omega) (by omega) (by omega) _).mono ?_; rintro e w' ⟨rfl, rfl⟩) | (go_at_call 64; refine (l03Volume_any _ _ _ k hs _ (by first | exact x2 | (simp [go_sem])) (HA.out.below (by repeat (first | exact Below.refl _ _ | assumption | apply bl_alloc | apply bl_drewN | apply Below.drew | (refine bl_set ?_ (by first | exact Nat.le_refl _ | (simp; done) | (simp; omega)) _) | (refine bl_trans ?_ (by assumption))))) hm L0.out.2.2.2.2.2 L0.out.2.2.2.2.1 (by omega)).mono ?_; rintro e w' ⟨rfl, rfl⟩))
              go_roundg (hi - (lo + hi) / 2).toNat
              case measure => rw [HGK.out]; omega
              case rel => exact ⟨(lo + hi) / 2, hi, by omega, hle, h3, h4, rfl, rfl, rfl, kx, by repeat (first | exact Below.refl _ _ | assumption | apply bl_alloc | apply bl_drewN | apply Below.drew | (refine bl_set ?_ (by first | exact Nat.le_refl _ | (simp; done) | (simp; omega)) _) | (refine bl_trans ?_ (by assumption)))⟩
          · obtain rfl : hi = q := by omega
            go_wp2
            go_ret2
            exact ⟨ret_two H.out.1.symm H.out.2.symm, by repeat (first | exact Below.refl _ _ | assumption | apply bl_alloc | apply bl_drewN | apply Below.drew | (refine bl_set ?_ (by first | exact Nat.le_refl _ | (simp; done) | (simp; omega)) _) | (refine bl_trans ?_ (by assumption)))⟩
      · have H := Lib.hid (lf_bad3 k0 k1 hv)
        unfold sharedB at k1
        go_enter Try.func30, Try.ntmps30
        go_wp2_with (first | (go_at_call 62; refine (l03Ok_any _ _ r c _ k hs (by simp [go_sem]) (by simp [go_sem]) (by simp [go_sem]) (HA.out.below (by repeat (first | exact Below.refl _ _ | assumption | apply bl_alloc | apply bl_drewN | apply Below.drew | (refine bl_set ?_ (by first | exact Nat.le_refl _ | (simp; done) | (simp; omega)) _) | (refine bl_trans ?_ (by assumption))))) hm).mono ?_; rintro e w' ⟨rfl, dd, rfl⟩) | (go_at_call 63; refine (l00In_any _ _ _ _).mono ?_; rintro e w' ⟨rfl, rfl⟩) | (go_at_call 64; refine (l03Volume_any _ _ _ k hs _ (by first | exact x2 | (simp [go_sem])) (HA.out.below (by repeat (first | exact Below.refl _ _ | assumption | apply bl_alloc | apply bl_drewN | apply Below.drew | (refine bl_set ?_ (by first | exact Nat.le_refl _ | (simp; done) | (simp; omega)) _) | (refine bl_trans ?_ (by assumption))))) hm L0.out.2.2.2.2.2 L0.out.2.2.2.2.1 (by omega)).mono ?_; rintro e w' ⟨rfl, rfl⟩))
        go_ret2
        exact ⟨ret_two H.out.1.symm H.out.2.symm, by repeat (first | exact Below.refl _ _ | assumption | apply bl_alloc | apply bl_drewN | apply Below.drew | (refine bl_set ?_ (by first | exact Nat.le_refl _ | (simp; done) | (simp; omega)) _) | (refine bl_trans ?_ (by assumption)))⟩
end Go.Proofs.Ytnhdhjijdcdilaa
