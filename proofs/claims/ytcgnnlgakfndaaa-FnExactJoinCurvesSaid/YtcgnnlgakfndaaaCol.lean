/-
  Contracts: the curve of a land. They hold for every land of at most 1048576 heights.
-/
import Derived.IntWalk
import Derived.Test.YtcgnnlgakfndaaaLand3
import Derived.Test.YtcgnnlgakfndaaaColPlain
import Derived.Test.YtcgnnlgakfndaaaCurve2
import Derived.Test.YtcgnnlgakfndaaaPair
import Derived.Test.YtcgnnlgakfndaaaMarks
import Derived.Test.YtcgnnlgakfndaaaCut
import Derived.Deep.RegionHeld3
import Derived.Deep.AppendLies
namespace Go.Proofs.Ytcgnnlgakfndaaa
set_option linter.unusedVariables false
set_option linter.unusedSimpArgs false
open Go.RowKit

set_option maxRecDepth 100000 in
set_option maxHeartbeats 6400000 in
theorem implCol (w : World) (r c : Int) (A : Option Addr) (k : Nat) (hs : List Int) (a b s : Int) (hA : RC w A (ints hs)) (hm : hs.length ≤ 1048576) : Calls Try.prog 14 #[.agg #[.int .i64 r, .int .i64 c, .slice A hs.length k], .int .i64 a, .int .i64 b, .int .i64 s] w (NewCurveD (coL r c hs a b s) (coV r c hs a b s) (coC r c hs a b s) w) := by
  have HA := Lib.hid hA
  clear hA
  cases k0 : landOk r c hs
  · skip
    have HC := Lib.hid (co_bad1 (a := a) (b := b) (s := s) k0)
    have H := Lib.hid (co_no HC.out (by omega))
    go_enter Try.func14, Try.ntmps14
    go_wp2_with (first | (go_at_call 43; refine (implValidLand _ _ _ _ _ _ (HA.out.below (by repeat (first | exact Below.refl _ _ | assumption | apply bl_alloc | apply bl_drewN | apply Below.drew | (refine bl_set ?_ (by first | exact Nat.le_refl _ | (simp; done) | (simp; omega)) _) | (refine bl_trans ?_ (by assumption))))) hm).mono ?_; rintro e w1 ⟨rfl, hb1⟩; have hk : w1.heap[w.heap.size]? = some (.cells #[.int .i64 r, .int .i64 c, .slice A hs.length k] 35 (0, 0)) := keep_blk (hb := hb1) (h := by first | exact hk | (repeat (first | (refine blk_new ?_; (first | rfl | (simp; done) | (simp; omega))) | refine blk_drewN ?_ | refine blk_old ?_))); obtain ⟨hc0, hc1, hc2, hlt⟩ := row_three hk; have kr : w1.heap[w.heap.size + 1]? = some (.cells #[.slice none 0 0, .slice none 0 0] 32 (0, 0)) := keep_blk (hb := hb1) (h := by first | exact kr | (repeat (first | (refine blk_new ?_; (first | rfl | (simp; done) | (simp; omega))) | refine blk_drewN ?_ | refine blk_old ?_))); obtain ⟨kr0, kr1, kf0, kf1, krl⟩ := cells_two kr (Below.refl _ _)) | (go_at_call 44; refine (validLevel_any _ _).mono ?_; rintro e w' ⟨rfl, rfl⟩) | (go_at_call 45; refine (in_any _ _ _ _).mono ?_; rintro e w' ⟨rfl, rfl⟩))
    refine bodyPost_ret (v := .tuple #[.agg #[.slice none 0 0, .slice none 0 0], .int .i64 1]) (by simp [results, Try.results14, go_sem, kr0, kr1]) rfl ?_
    rw [H.out.1, H.out.2, HC.out]
    exact ⟨none, 0, none, 0, rfl, OwnC.nil _ _ _ _, OwnC.nil _ _ _ _, Apart.none _, by repeat (first | exact Below.refl _ _ | assumption | apply bl_alloc | apply bl_drewN | apply Below.drew | (refine bl_set ?_ (by first | exact Nat.le_refl _ | (simp; done) | (simp; omega)) _) | (refine bl_trans ?_ (by assumption)))⟩
  · cases k1 : lvl a
    · skip
      have HC := Lib.hid (co_bad2 (s := s) k0 (coOk_1 (b := b) k1))
      have H := Lib.hid (co_no HC.out (by omega))
      go_enter Try.func14, Try.ntmps14
      go_wp2_with (first | (go_at_call 43; refine (implValidLand _ _ _ _ _ _ (HA.out.below (by repeat (first | exact Below.refl _ _ | assumption | apply bl_alloc | apply bl_drewN | apply Below.drew | (refine bl_set ?_ (by first | exact Nat.le_refl _ | (simp; done) | (simp; omega)) _) | (refine bl_trans ?_ (by assumption))))) hm).mono ?_; rintro e w1 ⟨rfl, hb1⟩; have hk : w1.heap[w.heap.size]? = some (.cells #[.int .i64 r, .int .i64 c, .slice A hs.length k] 35 (0, 0)) := keep_blk (hb := hb1) (h := by first | exact hk | (repeat (first | (refine blk_new ?_; (first | rfl | (simp; done) | (simp; omega))) | refine blk_drewN ?_ | refine blk_old ?_))); obtain ⟨hc0, hc1, hc2, hlt⟩ := row_three hk; have kr : w1.heap[w.heap.size + 1]? = some (.cells #[.slice none 0 0, .slice none 0 0] 32 (0, 0)) := keep_blk (hb := hb1) (h := by first | exact kr | (repeat (first | (refine blk_new ?_; (first | rfl | (simp; done) | (simp; omega))) | refine blk_drewN ?_ | refine blk_old ?_))); obtain ⟨kr0, kr1, kf0, kf1, krl⟩ := cells_two kr (Below.refl _ _)) | (go_at_call 44; refine (validLevel_any _ _).mono ?_; rintro e w' ⟨rfl, rfl⟩) | (go_at_call 45; refine (in_any _ _ _ _).mono ?_; rintro e w' ⟨rfl, rfl⟩))
      refine bodyPost_ret (v := .tuple #[.agg #[.slice none 0 0, .slice none 0 0], .int .i64 2]) (by simp [results, Try.results14, go_sem, kr0, kr1]) rfl ?_
      rw [H.out.1, H.out.2, HC.out]
      exact ⟨none, 0, none, 0, rfl, OwnC.nil _ _ _ _, OwnC.nil _ _ _ _, Apart.none _, by repeat (first | exact Below.refl _ _ | assumption | apply bl_alloc | apply bl_drewN | apply Below.drew | (refine bl_set ?_ (by first | exact Nat.le_refl _ | (simp; done) | (simp; omega)) _) | (refine bl_trans ?_ (by assumption)))⟩
    · cases k2 : lvl b
      · skip
        have HC := Lib.hid (co_bad2 (s := s) k0 (coOk_2 (a := a) k2))
        have H := Lib.hid (co_no HC.out (by omega))
        go_enter Try.func14, Try.ntmps14
        go_wp2_with (first | (go_at_call 43; refine (implValidLand _ _ _ _ _ _ (HA.out.below (by repeat (first | exact Below.refl _ _ | assumption | apply bl_alloc | apply bl_drewN | apply Below.drew | (refine bl_set ?_ (by first | exact Nat.le_refl _ | (simp; done) | (simp; omega)) _) | (refine bl_trans ?_ (by assumption))))) hm).mono ?_; rintro e w1 ⟨rfl, hb1⟩; have hk : w1.heap[w.heap.size]? = some (.cells #[.int .i64 r, .int .i64 c, .slice A hs.length k] 35 (0, 0)) := keep_blk (hb := hb1) (h := by first | exact hk | (repeat (first | (refine blk_new ?_; (first | rfl | (simp; done) | (simp; omega))) | refine blk_drewN ?_ | refine blk_old ?_))); obtain ⟨hc0, hc1, hc2, hlt⟩ := row_three hk; have kr : w1.heap[w.heap.size + 1]? = some (.cells #[.slice none 0 0, .slice none 0 0] 32 (0, 0)) := keep_blk (hb := hb1) (h := by first | exact kr | (repeat (first | (refine blk_new ?_; (first | rfl | (simp; done) | (simp; omega))) | refine blk_drewN ?_ | refine blk_old ?_))); obtain ⟨kr0, kr1, kf0, kf1, krl⟩ := cells_two kr (Below.refl _ _)) | (go_at_call 44; refine (validLevel_any _ _).mono ?_; rintro e w' ⟨rfl, rfl⟩) | (go_at_call 45; refine (in_any _ _ _ _).mono ?_; rintro e w' ⟨rfl, rfl⟩))
        refine bodyPost_ret (v := .tuple #[.agg #[.slice none 0 0, .slice none 0 0], .int .i64 2]) (by simp [results, Try.results14, go_sem, kr0, kr1]) rfl ?_
        rw [H.out.1, H.out.2, HC.out]
        exact ⟨none, 0, none, 0, rfl, OwnC.nil _ _ _ _, OwnC.nil _ _ _ _, Apart.none _, by repeat (first | exact Below.refl _ _ | assumption | apply bl_alloc | apply bl_drewN | apply Below.drew | (refine bl_set ?_ (by first | exact Nat.le_refl _ | (simp; done) | (simp; omega)) _) | (refine bl_trans ?_ (by assumption)))⟩
      · by_cases k3 : a < b
        · cases k4 : inR s 1 4000
          · skip
            have HC := Lib.hid (co_bad2 k0 (coOk_4 (a := a) (b := b) k4))
            have H := Lib.hid (co_no HC.out (by omega))
            go_enter Try.func14, Try.ntmps14
            go_wp2_with (first | (go_at_call 43; refine (implValidLand _ _ _ _ _ _ (HA.out.below (by repeat (first | exact Below.refl _ _ | assumption | apply bl_alloc | apply bl_drewN | apply Below.drew | (refine bl_set ?_ (by first | exact Nat.le_refl _ | (simp; done) | (simp; omega)) _) | (refine bl_trans ?_ (by assumption))))) hm).mono ?_; rintro e w1 ⟨rfl, hb1⟩; have hk : w1.heap[w.heap.size]? = some (.cells #[.int .i64 r, .int .i64 c, .slice A hs.length k] 35 (0, 0)) := keep_blk (hb := hb1) (h := by first | exact hk | (repeat (first | (refine blk_new ?_; (first | rfl | (simp; done) | (simp; omega))) | refine blk_drewN ?_ | refine blk_old ?_))); obtain ⟨hc0, hc1, hc2, hlt⟩ := row_three hk; have kr : w1.heap[w.heap.size + 1]? = some (.cells #[.slice none 0 0, .slice none 0 0] 32 (0, 0)) := keep_blk (hb := hb1) (h := by first | exact kr | (repeat (first | (refine blk_new ?_; (first | rfl | (simp; done) | (simp; omega))) | refine blk_drewN ?_ | refine blk_old ?_))); obtain ⟨kr0, kr1, kf0, kf1, krl⟩ := cells_two kr (Below.refl _ _)) | (go_at_call 44; refine (validLevel_any _ _).mono ?_; rintro e w' ⟨rfl, rfl⟩) | (go_at_call 45; refine (in_any _ _ _ _).mono ?_; rintro e w' ⟨rfl, rfl⟩))
            refine bodyPost_ret (v := .tuple #[.agg #[.slice none 0 0, .slice none 0 0], .int .i64 2]) (by simp [results, Try.results14, go_sem, kr0, kr1]) rfl ?_
            rw [H.out.1, H.out.2, HC.out]
            exact ⟨none, 0, none, 0, rfl, OwnC.nil _ _ _ _, OwnC.nil _ _ _ _, Apart.none _, by repeat (first | exact Below.refl _ _ | assumption | apply bl_alloc | apply bl_drewN | apply Below.drew | (refine bl_set ?_ (by first | exact Nat.le_refl _ | (simp; done) | (simp; omega)) _) | (refine bl_trans ?_ (by assumption)))⟩
          · have a1 := lvl_of k1
            have b1 := lvl_of k2
            have s1 := inR_of k4
            have L0 := Lib.hid (landOk_of k0)
            have KO := Lib.hid (coOk_5 k1 k2 k3 k4)
            have K0 := Lib.hid k0
            have h144 := L0.out.2.2.2.2.1
            have st := stOf_spec s1.1 (Int.le_of_lt k3)
            have ST := Lib.hid st
            have sn : stOf a b s ≤ 4000 := by omega
            have VA := Lib.hid (volTo_bd L0.out.2.2.2.2.2 (y := a) (by omega) hs.length (Nat.le_refl _))
            clear st
            obtain ⟨i0, hi, hz0, hz1, hz2⟩ := info_parts infoInt
            go_enter Try.func14, Try.ntmps14
            go_wp2_with (first | (go_at_call 43; refine (implValidLand _ _ _ _ _ _ (HA.out.below (by repeat (first | exact Below.refl _ _ | assumption | apply bl_alloc | apply bl_drewN | apply Below.drew | (refine bl_set ?_ (by first | exact Nat.le_refl _ | (simp; done) | (simp; omega)) _) | (refine bl_trans ?_ (by assumption))))) hm).mono ?_; rintro e w1 ⟨rfl, hb1⟩; have hk : w1.heap[w.heap.size]? = some (.cells #[.int .i64 r, .int .i64 c, .slice A hs.length k] 35 (0, 0)) := keep_blk (hb := hb1) (h := by first | exact hk | (repeat (first | (refine blk_new ?_; (first | rfl | (simp; done) | (simp; omega))) | refine blk_drewN ?_ | refine blk_old ?_))); obtain ⟨hc0, hc1, hc2, hlt⟩ := row_three hk; have kr : w1.heap[w.heap.size + 1]? = some (.cells #[.slice none 0 0, .slice none 0 0] 32 (0, 0)) := keep_blk (hb := hb1) (h := by first | exact kr | (repeat (first | (refine blk_new ?_; (first | rfl | (simp; done) | (simp; omega))) | refine blk_drewN ?_ | refine blk_old ?_))); obtain ⟨kr0, kr1, kf0, kf1, krl⟩ := cells_two kr (Below.refl _ _)) | (go_at_call 44; refine (validLevel_any _ _).mono ?_; rintro e w' ⟨rfl, rfl⟩) | (go_at_call 45; refine (in_any _ _ _ _).mono ?_; rintro e w' ⟨rfl, rfl⟩))
            have HB1 := Lib.hid (show Below w.heap.size w w1 by repeat (first | exact Below.refl _ _ | assumption | apply bl_alloc | apply bl_drewN | apply Below.drew | (refine bl_set ?_ (by first | exact Nat.le_refl _ | (simp; done) | (simp; omega)) _) | (refine bl_trans ?_ (by assumption))))
            have BB1 : w.heap.size < w1.heap.size := hlt
            have BB2 : w.heap.size + 1 < w1.heap.size := krl
            go_loopg [11] (stOf a b s) (fun m i wr => ∃ j, j ≤ stOf a b s ∧ m = stOf a b s - j ∧ i = .int .i64 (lvK a s j) ∧ (∃ A1 c1, wr.heap[w1.heap.size]? = some (.cells #[.slice A1 j c1, .slice none 0 0] 32 (0, 0)) ∧ Own2 wr (w1.heap.size + 1) w1.heap.size 2 (.slice A1 j c1) (clTo a s j) (.slice none 0 0) []) ∧ wr.heap[w.heap.size]? = some (.cells #[.int .i64 r, .int .i64 c, .slice A hs.length k] 35 (0, 0)) ∧ wr.heap[w.heap.size + 1]? = some (.cells #[.slice none 0 0, .slice none 0 0] 32 (0, 0)) ∧ Below w.heap.size w wr)
            case atStart => exact ⟨0, Nat.zero_le _, rfl, rfl, ⟨none, 0, by repeat (first | (refine blk_new ?_; (first | rfl | (simp; done) | (simp; omega))) | refine blk_drewN ?_ | refine blk_old ?_), ⟨World.ownsRow_nil _ _ _ _, World.ownsRow_nil _ _ _ _, (fun g h => by cases h), (fun g h => by cases h), (fun g h => by cases h), by simp⟩⟩, by repeat (first | (refine blk_new ?_; (first | rfl | (simp; done) | (simp; omega))) | refine blk_drewN ?_ | refine blk_old ?_); exact hk, by repeat (first | (refine blk_new ?_; (first | rfl | (simp; done) | (simp; omega))) | refine blk_drewN ?_ | refine blk_old ?_); exact kr, by repeat (first | exact Below.refl _ _ | assumption | apply bl_alloc | apply bl_drewN | apply Below.drew | (refine bl_set ?_ (by first | exact Nat.le_refl _ | (simp; done) | (simp; omega)) _) | (refine bl_trans ?_ (by assumption)))⟩
            case round =>
              clear hk kr hc0 hc1 hc2 kr0 kr1 kf0 kf1 hlt krl
              obtain ⟨j, hj, hgj, rfl, ⟨A1, c1, kc, hO⟩, kx, kr, hb⟩ := hrel
              obtain ⟨x0, x1, xf0, xf1, xl⟩ := cells_two kc (Below.refl _ _)
              have HGK := Lib.hid hgj
              have HNUM := Lib.hid (clTo_len a s j)
              have HBB := Lib.hid hb
              clear hgj
              by_cases hlt : j < stOf a b s
              · have h5 := ST.out.1 j hlt
                have h6 := lvK_bd s1.1 (a := a) j
                have HS := Lib.hid (show clTo a s (j + 1) = clTo a s j ++ [lvK a s j] from rfl)
                go_wp2_with (at_builtin; refine wpList_append_lies _ rfl _ _ 22 rfl (w1.heap.size + 1) 2 i0 (.int .i64 0) 1 8 Try.underlying22 hi hz0 hz1 hz2 rfl (by decide) _ _ _ rfl ((hO.an HNUM.out).alloc _) ⟨wr.heap.size, 0, none⟩ 1 1 [.int .i64 (lvK a s j)] rfl rfl (by first | exact app_news (heap_alloc_new _ _) | exact app_news (heap_alloc_new wr _)) (app_one _) (by decide) (by have := hlt; unfold maxLen; omega) (by have := hlt; omega) (by simp; omega) (wr.heap.size + 1) (by simp) ?_; intro g cap w3 hown3 hgrow3 hat3 hlt3; have kc3 := (hO.alloc (.cells #[.int .i64 (lvK a s j)] 2)).keepL hgrow3 (blk_old kc) (.inl rfl); obtain ⟨v0, v1, vf0, vf1, vl⟩ := cells_two kc3 (Below.refl _ _); have O3 := Lib.hid ((hO.alloc (.cells #[.int .i64 (lvK a s j)] 2)).leftN HNUM.out hown3 hgrow3 hat3 (by simp) HS.out); have R2 := Lib.hid ((hO.alloc (.cells #[.int .i64 (lvK a s j)] 2)).belowL (bl_alloc HBB.out _) (by have := BB1; omega) hgrow3); have R3 := Lib.hid ((hO.alloc (.cells #[.int .i64 (lvK a s j)] 2)).keepL hgrow3 (blk_old kx) (.inr (by have := BB1; omega))); have R4 := Lib.hid ((hO.alloc (.cells #[.int .i64 (lvK a s j)] 2)).keepL hgrow3 (blk_old kr) (.inr (by have := BB2; omega))); clear hown3 hgrow3 hat3 hlt3)
                go_roundg (stOf a b s - (j + 1))
                case measure => rw [HGK.out]; omega
                case rel => exact ⟨j + 1, by omega, rfl, rfl, ⟨some ⟨g, 0, none⟩, cap, heap_setCell_same _ _ 0 _ _ _ kc3, O3.out.set 0 _⟩, kb_set R3.out (by simp; omega), kb_set R4.out (by simp; omega), by have r2 := R2.out; repeat (first | exact Below.refl _ _ | assumption | apply bl_alloc | apply bl_drewN | apply Below.drew | (refine bl_set ?_ (by first | exact Nat.le_refl _ | (simp; done) | (simp; omega)) _) | (refine bl_trans ?_ (by assumption)))⟩
              · obtain rfl : j = stOf a b s := by omega
                have h5 := ST.out.2.1
                have HS := Lib.hid (show clL a b s = clTo a s (stOf a b s) ++ [b] from rfl)
                go_wp2_with (at_builtin; refine wpList_append_lies _ rfl _ _ 22 rfl (w1.heap.size + 1) 2 i0 (.int .i64 0) 1 8 Try.underlying22 hi hz0 hz1 hz2 rfl (by decide) _ _ _ rfl ((hO.an HNUM.out).alloc _) ⟨wr.heap.size, 0, none⟩ 1 1 [.int .i64 b] rfl rfl (by first | exact app_news (heap_alloc_new _ _) | exact app_news (heap_alloc_new wr _)) (app_one _) (by decide) (by have := sn; unfold maxLen; omega) (by have := sn; omega) (by simp; omega) (wr.heap.size + 1) (by simp) ?_; intro g cap w3 hown3 hgrow3 hat3 hlt3; have kc3 := (hO.alloc (.cells #[.int .i64 b] 2)).keepL hgrow3 (blk_old kc) (.inl rfl); obtain ⟨v0, v1, vf0, vf1, vl⟩ := cells_two kc3 (Below.refl _ _); have O3 := Lib.hid ((hO.alloc (.cells #[.int .i64 b] 2)).leftN HNUM.out hown3 hgrow3 hat3 (by simp) HS.out); have R2 := Lib.hid ((hO.alloc (.cells #[.int .i64 b] 2)).belowL (bl_alloc HBB.out _) (by have := BB1; omega) hgrow3); have R3 := Lib.hid ((hO.alloc (.cells #[.int .i64 b] 2)).keepL hgrow3 (blk_old kx) (.inr (by have := BB1; omega))); have R4 := Lib.hid ((hO.alloc (.cells #[.int .i64 b] 2)).keepL hgrow3 (blk_old kr) (.inr (by have := BB2; omega))); clear hown3 hgrow3 hat3 hlt3)
                have K3 := Lib.hid (heap_setCell_same _ _ 0 _ _ (.slice (some ⟨g, 0, none⟩) (stOf a b s + 1) cap) kc3)
                have O4 := Lib.hid (O3.out.set 0 (.slice (some ⟨g, 0, none⟩) (stOf a b s + 1) cap))
                have X4 := Lib.hid (kb_set (u := .slice (some ⟨g, 0, none⟩) (stOf a b s + 1) cap) (p := ⟨w1.heap.size, 0, none⟩) R3.out (by simp; omega))
                have Y4 := Lib.hid (kb_set (u := .slice (some ⟨g, 0, none⟩) (stOf a b s + 1) cap) (p := ⟨w1.heap.size, 0, none⟩) R4.out (by simp; omega))
                have B4 := Lib.hid (bl_set (p := ⟨w1.heap.size, 0, none⟩) R2.out (by simp; omega) (.slice (some ⟨g, 0, none⟩) (stOf a b s + 1) cap))
                have CL := Lib.hid (clL_len a b s)
                clear kc3 v0 v1 vf0 vf1 vl hO hb kc kx kr x0 x1 xf0 xf1 xl HBB HNUM O3 R2 R3 R4 HS
                go_loopg [62] (stOf a b s + 1) (fun m i wr => ∃ k2, k2 ≤ stOf a b s + 1 ∧ m = stOf a b s + 1 - k2 ∧ i = .int .i64 (k2 : Int) ∧ (∃ A2 c2, wr.heap[w1.heap.size]? = some (.cells #[.slice (some ⟨g, 0, none⟩) (stOf a b s + 1) cap, .slice A2 k2 c2] 32 (0, 0)) ∧ Own2 wr (w1.heap.size + 1) w1.heap.size 2 (.slice (some ⟨g, 0, none⟩) (stOf a b s + 1) cap) (clL a b s) (.slice A2 k2 c2) (cvTo hs a (clL a b s) k2)) ∧ wr.heap[w.heap.size]? = some (.cells #[.int .i64 r, .int .i64 c, .slice A hs.length k] 35 (0, 0)) ∧ wr.heap[w.heap.size + 1]? = some (.cells #[.slice none 0 0, .slice none 0 0] 32 (0, 0)) ∧ Below w.heap.size w wr)
                case atStart => exact ⟨0, Nat.zero_le _, rfl, rfl, ⟨none, 0, K3.out, O4.out⟩, X4.out, Y4.out, B4.out⟩
                case round =>
                  clear K3 O4 X4 Y4 B4
                  obtain ⟨k2, hk2, hgk2, rfl, ⟨A2, c2, kc, hO⟩, kx, kr, hb⟩ := hrel
                  obtain ⟨x0, x1, xf0, xf1, xl⟩ := cells_two kc (Below.refl _ _)
                  have HGK2 := Lib.hid hgk2
                  clear hgk2
                  by_cases hlt : k2 < stOf a b s + 1
                  · have gc := hO.a.2
                    have hcl : wr.cell? ⟨g, k2, none⟩ = some (.int .i64 (gt (clL a b s) k2)) := by
                      have h := (hO.an CL.out).cellAt k2 (by omega)
                      rw [h, ints_get _ _ (by rw [CL.out]; exact hlt)]
                    have hlv : -2000 ≤ gt (clL a b s) k2 ∧ gt (clL a b s) k2 ≤ 2000 := by
                      by_cases e : k2 < stOf a b s
                      · rw [gt_clL_lt e]
                        have h5 := ST.out.1 k2 e
                        have h6 := lvK_bd s1.1 (a := a) k2
                        omega
                      · obtain rfl : k2 = stOf a b s := by omega
                        rw [gt_clL_last]
                        omega
                    clear gc
                    obtain ⟨y, hy⟩ : ∃ y, y = gt (clL a b s) k2 := ⟨_, rfl⟩
                    rw [← hy] at hcl hlv
                    have VB := volTo_bd L0.out.2.2.2.2.2 (y := y) (by omega) hs.length (Nat.le_refl _)
                    have VC := VA.out
                    have HS := Lib.hid (show cvTo hs a (clL a b s) (k2 + 1) = cvTo hs a (clL a b s) k2 ++ [volTo hs y hs.length - volTo hs a hs.length] by rw [hy]; rfl)
                    have HY := Lib.hid hy
                    clear hy
                    have kb0 : (0 : Int) ≤ (k2 : Int) := by omega
                    have kb1 : (k2 : Int) < ((stOf a b s + 1 : Nat) : Int) := by omega
                    have HQ := Lib.hid hO
                    obtain ⟨hc0, hc1, hc2, hxl⟩ := row_three kx
                    have HK := Lib.hid kc
                    have HX := Lib.hid kx
                    have HR := Lib.hid kr
                    have HB := Lib.hid hb
                    have W1 : IntKind.i64.wrap (volTo hs y hs.length - volTo hs a hs.length) = volTo hs y hs.length - volTo hs a hs.length := IntWalk.i64_in _ (by omega)
                    have HNUM := Lib.hid (cvTo_len hs a (clL a b s) k2)
                    clear hO kc kx kr
                    go_wp2
                    refine region_cutH (S := fun w' => w'.cell? ⟨w1.heap.size, 1, none⟩ = some (.slice A2 k2 c2) ∧ w'.cell? ⟨w.heap.size, 0, none⟩ = some (.int .i64 r) ∧ w'.cell? ⟨w.heap.size, 1, none⟩ = some (.int .i64 c) ∧ w'.cell? ⟨w.heap.size, 2, none⟩ = some (.slice A hs.length k)) 11 (by kernel_rfl) (by kernel_rfl) ?hS1 (fun hHeld => ?hR1)
                    case hS1 => (((try dsimp only); refine ⟨?_, ?_, ?_, ?_⟩ <;> (repeat (first | with_reducible assumption | with_reducible refine kc_drew ?_ | with_reducible refine kc_drewN ?_ | with_reducible refine kc_alloc ?_ | with_reducible refine kc_set ?_ (by first | omega | (simp; done) | (simp; omega))))))
                    simp only [List.take_succ_cons, List.take_zero, List.drop_succ_cons, List.drop_zero]
                    refine wpAnyH_take (i := 0) (v := ?hv2) rfl (by kernel_rfl) (by kernel_rfl) (by kernel_rfl) (fun _ _ _ h => h) (Or.inl ⟨by rfl, ?hy2⟩) (by assumption) ?hR2
                    case hy2 => (intro wq hSw; (try dsimp only at hSw); go_simp; (try with_reducible rfl))
                    simp only [Act.put, List.setIfInBounds_toArray, List.set_cons_zero, List.set_cons_succ]
                    refine wpAnyH_take (i := 1) (v := ?hv3) rfl (by kernel_rfl) (by kernel_rfl) (by kernel_rfl) (fun _ _ _ h => h) (Or.inl ⟨by rfl, ?hy3⟩) (by assumption) ?hR3
                    case hy3 => (intro wq hSw; (try dsimp only at hSw); go_simp; (try with_reducible rfl))
                    simp only [Act.put, List.setIfInBounds_toArray, List.set_cons_zero, List.set_cons_succ]
                    refine wpAnyH_take (i := 2) (v := ?hv4) rfl (by kernel_rfl) (by kernel_rfl) (by kernel_rfl) (fun _ _ _ h => h) (Or.inl ⟨by rfl, ?hy4⟩) (by assumption) ?hR4
                    case hy4 => (intro wq hSw; (try dsimp only at hSw); go_simp; (try with_reducible rfl))
                    simp only [Act.put, List.setIfInBounds_toArray, List.set_cons_zero, List.set_cons_succ]
                    refine wpAnyH_take (i := 3) (v := ?hv5) rfl (by kernel_rfl) (by kernel_rfl) (by kernel_rfl) (fun _ _ _ h => h) (Or.inl ⟨by rfl, ?hy5⟩) (by assumption) ?hR5
                    case hy5 => (intro wq hSw; (try dsimp only at hSw); go_simp; (try with_reducible rfl))
                    simp only [Act.put, List.setIfInBounds_toArray, List.set_cons_zero, List.set_cons_succ]
                    refine wpAnyH_take (i := 5) (v := ?hv6) rfl (by kernel_rfl) (by kernel_rfl) (by kernel_rfl) (fun _ _ _ h => h) (Or.inl ⟨by rfl, ?hy6⟩) (by assumption) ?hR6
                    case hy6 => (intro wq hSw; (try dsimp only at hSw); go_simp; (try with_reducible rfl))
                    simp only [Act.put, List.setIfInBounds_toArray, List.set_cons_zero, List.set_cons_succ]
                    refine wpAnyH_take (i := 6) (v := ?hv7) rfl (by kernel_rfl) (by kernel_rfl) (by kernel_rfl) (fun _ _ _ h => h) (Or.inl ⟨by rfl, ?hy7⟩) (by assumption) ?hR7
                    case hy7 => (intro wq hSw; (try dsimp only at hSw); go_simp; (try with_reducible rfl))
                    simp only [Act.put, List.setIfInBounds_toArray, List.set_cons_zero, List.set_cons_succ]
                    refine wpAnyH_ready (rs := [4]) (by kernel_rfl) (by simp) (AllReadyH.cons rfl (fun K hK => ?hR8) AllReadyH.nil)
                    go_simp
                    (go_at_call_of 46 (Value.int .i64 y); refine (volume_any _ r c A k hs y (HA.out.below (by repeat (first | exact Below.refl _ _ | assumption | apply bl_alloc | apply bl_drewN | apply Below.drew | (refine bl_set ?_ (by first | exact Nat.le_refl _ | (simp; done) | (simp; omega)) _) | (refine bl_trans ?_ (by assumption))))) hm L0.out.2.2.2.2.2 h144 (by omega)).mono ?_; rintro e w5 ⟨rfl, hb5⟩; have t5 : Below wr.heap.size wr w5 := (by repeat (first | exact Below.refl _ _ | assumption | apply bl_alloc | apply bl_drewN | apply Below.drew | (refine bl_set ?_ (by first | exact Nat.le_refl _ | (simp; done) | (simp; omega)) _) | (refine bl_trans ?_ (by assumption)))); have d50 := cell_b t5 hc0; have d51 := cell_b t5 hc1; have d52 := cell_b t5 hc2; have e5 := cell_b t5 x1)
                    (try go_wp2_with fail)
                    clear hHeld
                    refine hK.out _ _ ?hS8 (fun hHeld => ?hT8)
                    case hS8 => (((try dsimp only); refine ⟨?_, ?_, ?_, ?_⟩ <;> (repeat (first | with_reducible assumption | with_reducible refine kc_drew ?_ | with_reducible refine kc_drewN ?_ | with_reducible refine kc_alloc ?_ | with_reducible refine kc_set ?_ (by first | omega | (simp; done) | (simp; omega))))))
                    clear hK K
                    (try simp only [Act.put, List.setIfInBounds_toArray, List.set_cons_zero, List.set_cons_succ])
                    refine wpAnyH_ready (rs := [7]) (by kernel_rfl) (by simp) (AllReadyH.cons rfl (fun K hK => ?hR9) AllReadyH.nil)
                    go_simp
                    (go_at_call_of 46 (Value.int .i64 a); refine (volume_any _ r c A k hs a (HA.out.below (by repeat (first | exact Below.refl _ _ | assumption | apply bl_alloc | apply bl_drewN | apply Below.drew | (refine bl_set ?_ (by first | exact Nat.le_refl _ | (simp; done) | (simp; omega)) _) | (refine bl_trans ?_ (by assumption))))) hm L0.out.2.2.2.2.2 h144 (by omega)).mono ?_; rintro e w6 ⟨rfl, hb6⟩; have t6 : Below wr.heap.size wr w6 := (by repeat (first | exact Below.refl _ _ | assumption | apply bl_alloc | apply bl_drewN | apply Below.drew | (refine bl_set ?_ (by first | exact Nat.le_refl _ | (simp; done) | (simp; omega)) _) | (refine bl_trans ?_ (by assumption)))); have d60 := cell_b t6 hc0; have d61 := cell_b t6 hc1; have d62 := cell_b t6 hc2; have e6 := cell_b t6 x1; have HO6 := Lib.hid (HQ.out.below t6); have kc6 : w6.heap[w1.heap.size]? = some (.cells #[.slice (some ⟨g, 0, none⟩) (stOf a b s + 1) cap, .slice A2 k2 c2] 32 (0, 0)) := keep_blk (hb := t6) (h := HK.out); have kx6 : w6.heap[w.heap.size]? = some (.cells #[.int .i64 r, .int .i64 c, .slice A hs.length k] 35 (0, 0)) := keep_blk (hb := t6) (h := HX.out); have kr6 : w6.heap[w.heap.size + 1]? = some (.cells #[.slice none 0 0, .slice none 0 0] 32 (0, 0)) := keep_blk (hb := t6) (h := HR.out); have HB6 := Lib.hid (HB.out.trans (t6.mono HB.out.size)); have z6 := t6.size)
                    (try go_wp2_with fail)
                    clear hHeld
                    refine hK.out _ _ ?hS9 (fun hHeld => ?hT9)
                    case hS9 => (((try dsimp only); refine ⟨?_, ?_, ?_, ?_⟩ <;> (repeat (first | with_reducible assumption | with_reducible refine kc_drew ?_ | with_reducible refine kc_drewN ?_ | with_reducible refine kc_alloc ?_ | with_reducible refine kc_set ?_ (by first | omega | (simp; done) | (simp; omega))))))
                    clear hK K
                    (try simp only [Act.put, List.setIfInBounds_toArray, List.set_cons_zero, List.set_cons_succ])
                    refine wpAnyH_take (i := 8) (v := ?hv10) rfl (by kernel_rfl) (by kernel_rfl) (by kernel_rfl) (fun _ _ _ h => h) (Or.inl ⟨by rfl, ?hy10⟩) (by assumption) ?hR10
                    case hy10 => (intro wq hSw; (try dsimp only at hSw); go_simp; (try with_reducible rfl))
                    simp only [Act.put, List.setIfInBounds_toArray, List.set_cons_zero, List.set_cons_succ]
                    refine wpAnyH_ready (rs := [9]) (by kernel_rfl) (by simp) (AllReadyH.cons rfl (fun K hK => ?hR11) AllReadyH.nil)
                    go_simp
                    clear hHeld
                    refine hK.out _ _ ?hS11 (fun hHeld => ?hT11)
                    case hS11 => (((try dsimp only); refine ⟨?_, ?_, ?_, ?_⟩ <;> (repeat (first | with_reducible assumption | with_reducible refine kc_drew ?_ | with_reducible refine kc_drewN ?_ | with_reducible refine kc_alloc ?_ | with_reducible refine kc_set ?_ (by first | omega | (simp; done) | (simp; omega))))))
                    clear hK K
                    (try simp only [Act.put, List.setIfInBounds_toArray, List.set_cons_zero, List.set_cons_succ])
                    refine wpAnyH_ready (rs := [10]) (by kernel_rfl) (by simp) (AllReadyH.cons rfl (fun K hK => ?hR12) AllReadyH.nil)
                    (refine step_append_lies _ (by rfl) _ _ _ (by rfl) (w1.heap.size + 1) 2 i0 (.int .i64 0) 1 8 Try.underlying22 hi hz0 hz1 hz2 rfl (by decide) (.slice A2 k2 c2) k2 (ints (cvTo hs a (clL a b s) k2)) (by rfl) ((HO6.out.bn HNUM.out).alloc _) ⟨w6.heap.size, 0, none⟩ 1 1 [.int .i64 (volTo hs y hs.length - volTo hs a hs.length)] (by rfl) (by rfl) (app_news (heap_alloc_new w6 _)) (app_one _) (by decide) (by unfold maxLen; omega) (by omega) (by simp; omega) (w6.heap.size + 1) (by simp) ?_; intro g2 cap2 w7 hown3 hgrow3 hat3 hlt3; have kc3 := (HO6.out.alloc (.cells #[.int .i64 (volTo hs y hs.length - volTo hs a hs.length)] 2)).keepR hgrow3 (blk_old kc6) (.inl rfl); obtain ⟨v0, v1, vf0, vf1, vl⟩ := cells_two kc3 (Below.refl _ _); have O3 := Lib.hid ((HO6.out.alloc (.cells #[.int .i64 (volTo hs y hs.length - volTo hs a hs.length)] 2)).rightN HNUM.out hown3 hgrow3 hat3 (by simp) HS.out); have R2 := Lib.hid ((HO6.out.alloc (.cells #[.int .i64 (volTo hs y hs.length - volTo hs a hs.length)] 2)).belowR (bl_alloc HB6.out _) (by omega) hgrow3); have R3 := Lib.hid ((HO6.out.alloc (.cells #[.int .i64 (volTo hs y hs.length - volTo hs a hs.length)] 2)).keepR hgrow3 (blk_old kx6) (.inr (by omega))); have R4 := Lib.hid ((HO6.out.alloc (.cells #[.int .i64 (volTo hs y hs.length - volTo hs a hs.length)] 2)).keepR hgrow3 (blk_old kr6) (.inr (by omega))); obtain ⟨g0, g1, g2', gl⟩ := row_three R3.out; clear hown3 hgrow3 hat3 hlt3)
                    clear hHeld
                    refine hK.out _ _ ?hS12 (fun hHeld => ?hT12)
                    case hS12 => (((try dsimp only); refine ⟨?_, ?_, ?_, ?_⟩ <;> (repeat (first | with_reducible assumption | with_reducible refine kc_drew ?_ | with_reducible refine kc_drewN ?_ | with_reducible refine kc_alloc ?_ | with_reducible refine kc_set ?_ (by first | omega | (simp; done) | (simp; omega))))))
                    clear hK K
                    (try simp only [Act.put, List.setIfInBounds_toArray, List.set_cons_zero, List.set_cons_succ])
                    refine wpAnyH_done (by kernel_rfl) ?hR13 _
                    show wpList _ _ _ _ _ _
                    go_wp2
                    go_roundg (stOf a b s + 1 - (k2 + 1))
                    case measure => rw [HGK2.out]; omega
                    case rel => exact ⟨k2 + 1, by omega, rfl, by go_num, ⟨some ⟨g2, 0, none⟩, cap2, heap_setCell_same _ _ 1 _ _ _ kc3, O3.out.set 1 _⟩, kb_set R3.out (by simp; omega), kb_set R4.out (by simp; omega), by have r2 := R2.out; repeat (first | exact Below.refl _ _ | assumption | apply bl_alloc | apply bl_drewN | apply Below.drew | (refine bl_set ?_ (by first | exact Nat.le_refl _ | (simp; done) | (simp; omega)) _) | (refine bl_trans ?_ (by assumption)))⟩
                  · obtain rfl : k2 = stOf a b s + 1 := by omega
                    obtain ⟨kr0, kr1, kf0, kf1, krl⟩ := cells_two kr (Below.refl _ _)
                    have CV := Lib.hid (cvL_len hs a b s)
                    obtain ⟨o1, o2, ap⟩ := hO.endsN CL.out CV.out
                    by_cases h12 : stOf a b s + 1 ≤ 12
                    · have h12' : ¬ (12 : Int) < ((stOf a b s + 1 : Nat) : Int) := by omega
                      have HVC := Lib.hid (fun (v : Bool) (hv : curveOk (clL a b s) (cvL hs a b s) = v) => (by
                        have h := implValidCurve wr (some ⟨g, 0, none⟩) A2 cap c2 (clL a b s) (cvL hs a b s) o1.rc o2.rc (by rw [CL.out]; omega) (by rw [CV.out]; omega)
                        rw [CL.out, CV.out, hv] at h
                        exact h : Calls Try.prog 47 #[.agg #[.slice (some ⟨g, 0, none⟩) (stOf a b s + 1) cap, .slice A2 (stOf a b s + 1) c2]] wr fun e w' => e = .returned (.bool v) ∧ Below wr.heap.size wr w'))
                      cases k5 : curveOk (clL a b s) (cvL hs a b s)
                      · have HC := Lib.hid (co_bad4 K0.out KO.out h12 k5)
                        have H := Lib.hid (co_no HC.out (by omega))
                        have HV := HVC.out _ k5
                        go_wp2_with (go_at_call 47; refine HV.mono ?_; rintro e w5 ⟨rfl, hb5⟩; have kr5 : w5.heap[w.heap.size + 1]? = some (.cells #[.slice none 0 0, .slice none 0 0] 32 (0, 0)) := keep_blk (hb := hb5) (h := kr); obtain ⟨z0, z1, zf0, zf1, zl⟩ := cells_two kr5 (Below.refl _ _))
                        refine bodyPost_ret (v := .tuple #[.agg #[.slice none 0 0, .slice none 0 0], .int .i64 6]) (by simp [results, Try.results14, go_sem, z0, z1]) rfl ?_
                        rw [H.out.1, H.out.2, HC.out]
                        exact ⟨none, 0, none, 0, rfl, OwnC.nil _ _ _ _, OwnC.nil _ _ _ _, Apart.none _, by repeat (first | exact Below.refl _ _ | assumption | apply bl_alloc | apply bl_drewN | apply Below.drew | (refine bl_set ?_ (by first | exact Nat.le_refl _ | (simp; done) | (simp; omega)) _) | (refine bl_trans ?_ (by assumption)))⟩
                      · have HC := Lib.hid (co_ok K0.out KO.out h12 k5)
                        have H := Lib.hid (co_yes HC.out)
                        have HV := HVC.out _ k5
                        go_wp2_with (go_at_call 47; refine HV.mono ?_; rintro e w5 ⟨rfl, hb5⟩; have kr5 : w5.heap[w.heap.size + 1]? = some (.cells #[.slice none 0 0, .slice none 0 0] 32 (0, 0)) := keep_blk (hb := hb5) (h := kr); obtain ⟨z0, z1, zf0, zf1, zl⟩ := cells_two kr5 (Below.refl _ _); have kc5 := keep_blk (hb := hb5) (h := kc); obtain ⟨y0, y1, yf0, yf1, yl⟩ := cells_two kc5 (Below.refl _ _))
                        refine bodyPost_ret (v := .tuple #[.agg #[.slice (some ⟨g, 0, none⟩) (stOf a b s + 1) cap, .slice A2 (stOf a b s + 1) c2], .int .i64 0]) (by simp [results, Try.results14, go_sem, z0, z1]) rfl ?_
                        rw [H.out.1, H.out.2, HC.out]
                        have z5 := hb5.size
                        have zr := hb.size
                        exact ⟨_, _, _, _, by rw [CL.out, CV.out], (((o1.below hb5).far (.inl (by simp; omega)) _).far (.inl (by simp; omega)) _).wide (by omega) (by simp; omega), (((o2.below hb5).far (.inl (by simp; omega)) _).far (.inl (by simp; omega)) _).wide (by omega) (by simp; omega), ap, by repeat (first | exact Below.refl _ _ | assumption | apply bl_alloc | apply bl_drewN | apply Below.drew | (refine bl_set ?_ (by first | exact Nat.le_refl _ | (simp; done) | (simp; omega)) _) | (refine bl_trans ?_ (by assumption)))⟩
                    · have h12' : (12 : Int) < ((stOf a b s + 1 : Nat) : Int) := by omega
                      have HC := Lib.hid (co_bad3 K0.out KO.out h12)
                      have H := Lib.hid (co_no HC.out (by omega))
                      go_wp2
                      refine bodyPost_ret (v := .tuple #[.agg #[.slice none 0 0, .slice none 0 0], .int .i64 5]) (by simp [results, Try.results14, go_sem, kr0, kr1]) rfl ?_
                      rw [H.out.1, H.out.2, HC.out]
                      exact ⟨none, 0, none, 0, rfl, OwnC.nil _ _ _ _, OwnC.nil _ _ _ _, Apart.none _, by repeat (first | exact Below.refl _ _ | assumption | apply bl_alloc | apply bl_drewN | apply Below.drew | (refine bl_set ?_ (by first | exact Nat.le_refl _ | (simp; done) | (simp; omega)) _) | (refine bl_trans ?_ (by assumption)))⟩
        · skip
          have HC := Lib.hid (co_bad2 (s := s) k0 (coOk_3 k3))
          have H := Lib.hid (co_no HC.out (by omega))
          go_enter Try.func14, Try.ntmps14
          go_wp2_with (first | (go_at_call 43; refine (implValidLand _ _ _ _ _ _ (HA.out.below (by repeat (first | exact Below.refl _ _ | assumption | apply bl_alloc | apply bl_drewN | apply Below.drew | (refine bl_set ?_ (by first | exact Nat.le_refl _ | (simp; done) | (simp; omega)) _) | (refine bl_trans ?_ (by assumption))))) hm).mono ?_; rintro e w1 ⟨rfl, hb1⟩; have hk : w1.heap[w.heap.size]? = some (.cells #[.int .i64 r, .int .i64 c, .slice A hs.length k] 35 (0, 0)) := keep_blk (hb := hb1) (h := by first | exact hk | (repeat (first | (refine blk_new ?_; (first | rfl | (simp; done) | (simp; omega))) | refine blk_drewN ?_ | refine blk_old ?_))); obtain ⟨hc0, hc1, hc2, hlt⟩ := row_three hk; have kr : w1.heap[w.heap.size + 1]? = some (.cells #[.slice none 0 0, .slice none 0 0] 32 (0, 0)) := keep_blk (hb := hb1) (h := by first | exact kr | (repeat (first | (refine blk_new ?_; (first | rfl | (simp; done) | (simp; omega))) | refine blk_drewN ?_ | refine blk_old ?_))); obtain ⟨kr0, kr1, kf0, kf1, krl⟩ := cells_two kr (Below.refl _ _)) | (go_at_call 44; refine (validLevel_any _ _).mono ?_; rintro e w' ⟨rfl, rfl⟩) | (go_at_call 45; refine (in_any _ _ _ _).mono ?_; rintro e w' ⟨rfl, rfl⟩))
          refine bodyPost_ret (v := .tuple #[.agg #[.slice none 0 0, .slice none 0 0], .int .i64 2]) (by simp [results, Try.results14, go_sem, kr0, kr1]) rfl ?_
          rw [H.out.1, H.out.2, HC.out]
          exact ⟨none, 0, none, 0, rfl, OwnC.nil _ _ _ _, OwnC.nil _ _ _ _, Apart.none _, by repeat (first | exact Below.refl _ _ | assumption | apply bl_alloc | apply bl_drewN | apply Below.drew | (refine bl_set ?_ (by first | exact Nat.le_refl _ | (simp; done) | (simp; omega)) _) | (refine bl_trans ?_ (by assumption)))⟩
end Go.Proofs.Ytcgnnlgakfndaaa
