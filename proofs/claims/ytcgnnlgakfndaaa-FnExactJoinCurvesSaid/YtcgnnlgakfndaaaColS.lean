/-
  Contracts: the curve of a land, the reference. They hold for every land of at most 1048576 heights.
-/
import Derived.IntWalk
import Derived.Test.YtcgnnlgakfndaaaCol
import Derived.Deep.RegionHeld3
import Derived.Deep.AppendLies
namespace Go.Proofs.Ytcgnnlgakfndaaa
set_option linter.unusedVariables false
set_option linter.unusedSimpArgs false
open Go.RowKit

theorem own2_start (W : World) {B T g : Nat} {c : Array Value} {t : TypeId} (hg : W.heap.size = g) (hB : B ≤ g) :
    Own2 (((W.alloc (.cells #[] T)).alloc (.cells #[] T)).alloc (.cells c t)) B (g + 2) T (.slice (some ⟨g, 0, none⟩) 0 0) [] (.slice (some ⟨g + 1, 0, none⟩) 0 0) [] := by
  subst hg
  have h1 : (W.alloc (.cells #[] T)).ownsRow B T 1 (.slice (some ⟨W.heap.size, 0, none⟩) 0 0) 0 (ints []) := own_litB T B hB
  have h2 := own_litB (W := W.alloc (.cells #[] T)) T B (by simp; omega)
  refine ⟨(h1.alloc _).alloc _, by simpa using h2.alloc _, fun g hg hu => ?_, fun g hg => ?_, fun g hg => ?_, by simp⟩
  all_goals simp [Value.ownBlock] at *
  all_goals omega
theorem cvTo_congr {hs ls ms : List Int} {a : Int} (k : Nat) (h : ∀ i, i < k → gt ls i = gt ms i) : cvTo hs a ls k = cvTo hs a ms k := by
  induction k with
  | zero => rfl
  | succ k ih => rw [cvTo, cvTo, ih fun i hi => h i (by omega), h k (by omega)]
def cuTo (hs : List Int) (a s : Int) (j : Nat) : List Int := cvTo hs a (clTo a s j) j
theorem cuTo_len (hs : List Int) (a s : Int) (j : Nat) : (cuTo hs a s j).length = j := cvTo_len _ _ _ _
theorem cuTo_next (hs : List Int) (a s : Int) (j : Nat) : cuTo hs a s (j + 1) = cuTo hs a s j ++ [volTo hs (lvK a s j) hs.length - volTo hs a hs.length] := by
  unfold cuTo
  rw [cvTo, gt_clTo _ _ _ _ (Nat.lt_succ_self j), cvTo_congr (ms := clTo a s j) j fun i hi => by rw [gt_clTo _ _ _ _ (by omega), gt_clTo _ _ _ _ hi]]
theorem cuTo_last (hs : List Int) (a b s : Int) : cvL hs a b s = cuTo hs a s (stOf a b s) ++ [volTo hs b hs.length - volTo hs a hs.length] := by
  unfold cvL cuTo
  rw [cvTo, gt_clL_last, cvTo_congr (ms := clTo a s (stOf a b s)) (stOf a b s) fun i hi => by rw [gt_clL_lt hi, gt_clTo _ _ _ _ hi]]
set_option maxRecDepth 100000 in
set_option maxHeartbeats 6400000 in
theorem specCol (w : World) (r c : Int) (A : Option Addr) (k : Nat) (hs : List Int) (a b s : Int) (hA : RC w A (ints hs)) (hm : hs.length ≤ 1048576) : Calls Try.prog 12 #[.agg #[.int .i64 r, .int .i64 c, .slice A hs.length k], .int .i64 a, .int .i64 b, .int .i64 s] w (NewCurveD (coL r c hs a b s) (coV r c hs a b s) (coC r c hs a b s) w) := by
  have HA := Lib.hid hA
  clear hA
  cases k0 : landOk r c hs
  · skip
    have HC := Lib.hid (co_bad1 (a := a) (b := b) (s := s) k0)
    have H := Lib.hid (co_no HC.out (by omega))
    go_enter Try.func12, Try.ntmps12
    go_wp2_with (first | (go_at_call 38; refine (l03Ok_any _ w.heap.size r c A k hs (by simp [go_sem]) (by simp [go_sem]) (by simp [go_sem]) (HA.out.below (by repeat (first | exact Below.refl _ _ | assumption | apply bl_alloc | apply bl_drewN | apply Below.drew | (refine bl_set ?_ (by first | exact Nat.le_refl _ | (simp; done) | (simp; omega)) _) | (refine bl_trans ?_ (by assumption))))) hm).mono ?_; rintro e w1 ⟨rfl, d1, rfl⟩) | (go_at_call 39; refine (l02Level_any _ _).mono ?_; rintro e w' ⟨rfl, rfl⟩) | (go_at_call 40; refine (l00In_any _ _ _ _).mono ?_; rintro e w' ⟨rfl, rfl⟩))
    refine bodyPost_ret (v := .tuple #[.agg #[.slice none 0 0, .slice none 0 0], .int .i64 1]) (by simp [results, Try.results12, go_sem]) rfl ?_
    rw [H.out.1, H.out.2, HC.out]
    exact ⟨none, 0, none, 0, rfl, OwnC.nil _ _ _ _, OwnC.nil _ _ _ _, Apart.none _, by repeat (first | exact Below.refl _ _ | assumption | apply bl_alloc | apply bl_drewN | apply Below.drew | (refine bl_set ?_ (by first | exact Nat.le_refl _ | (simp; done) | (simp; omega)) _) | (refine bl_trans ?_ (by assumption)))⟩
  · cases k1 : lvl a
    · skip
      have HC := Lib.hid (co_bad2 (s := s) k0 (coOk_1 (b := b) k1))
      have H := Lib.hid (co_no HC.out (by omega))
      go_enter Try.func12, Try.ntmps12
      go_wp2_with (first | (go_at_call 38; refine (l03Ok_any _ w.heap.size r c A k hs (by simp [go_sem]) (by simp [go_sem]) (by simp [go_sem]) (HA.out.below (by repeat (first | exact Below.refl _ _ | assumption | apply bl_alloc | apply bl_drewN | apply Below.drew | (refine bl_set ?_ (by first | exact Nat.le_refl _ | (simp; done) | (simp; omega)) _) | (refine bl_trans ?_ (by assumption))))) hm).mono ?_; rintro e w1 ⟨rfl, d1, rfl⟩) | (go_at_call 39; refine (l02Level_any _ _).mono ?_; rintro e w' ⟨rfl, rfl⟩) | (go_at_call 40; refine (l00In_any _ _ _ _).mono ?_; rintro e w' ⟨rfl, rfl⟩))
      refine bodyPost_ret (v := .tuple #[.agg #[.slice none 0 0, .slice none 0 0], .int .i64 2]) (by simp [results, Try.results12, go_sem]) rfl ?_
      rw [H.out.1, H.out.2, HC.out]
      exact ⟨none, 0, none, 0, rfl, OwnC.nil _ _ _ _, OwnC.nil _ _ _ _, Apart.none _, by repeat (first | exact Below.refl _ _ | assumption | apply bl_alloc | apply bl_drewN | apply Below.drew | (refine bl_set ?_ (by first | exact Nat.le_refl _ | (simp; done) | (simp; omega)) _) | (refine bl_trans ?_ (by assumption)))⟩
    · cases k2 : lvl b
      · skip
        have HC := Lib.hid (co_bad2 (s := s) k0 (coOk_2 (a := a) k2))
        have H := Lib.hid (co_no HC.out (by omega))
        go_enter Try.func12, Try.ntmps12
        go_wp2_with (first | (go_at_call 38; refine (l03Ok_any _ w.heap.size r c A k hs (by simp [go_sem]) (by simp [go_sem]) (by simp [go_sem]) (HA.out.below (by repeat (first | exact Below.refl _ _ | assumption | apply bl_alloc | apply bl_drewN | apply Below.drew | (refine bl_set ?_ (by first | exact Nat.le_refl _ | (simp; done) | (simp; omega)) _) | (refine bl_trans ?_ (by assumption))))) hm).mono ?_; rintro e w1 ⟨rfl, d1, rfl⟩) | (go_at_call 39; refine (l02Level_any _ _).mono ?_; rintro e w' ⟨rfl, rfl⟩) | (go_at_call 40; refine (l00In_any _ _ _ _).mono ?_; rintro e w' ⟨rfl, rfl⟩))
        refine bodyPost_ret (v := .tuple #[.agg #[.slice none 0 0, .slice none 0 0], .int .i64 2]) (by simp [results, Try.results12, go_sem]) rfl ?_
        rw [H.out.1, H.out.2, HC.out]
        exact ⟨none, 0, none, 0, rfl, OwnC.nil _ _ _ _, OwnC.nil _ _ _ _, Apart.none _, by repeat (first | exact Below.refl _ _ | assumption | apply bl_alloc | apply bl_drewN | apply Below.drew | (refine bl_set ?_ (by first | exact Nat.le_refl _ | (simp; done) | (simp; omega)) _) | (refine bl_trans ?_ (by assumption)))⟩
      · by_cases k3 : a < b
        · cases k4 : inR s 1 4000
          · skip
            have HC := Lib.hid (co_bad2 k0 (coOk_4 (a := a) (b := b) k4))
            have H := Lib.hid (co_no HC.out (by omega))
            go_enter Try.func12, Try.ntmps12
            go_wp2_with (first | (go_at_call 38; refine (l03Ok_any _ w.heap.size r c A k hs (by simp [go_sem]) (by simp [go_sem]) (by simp [go_sem]) (HA.out.below (by repeat (first | exact Below.refl _ _ | assumption | apply bl_alloc | apply bl_drewN | apply Below.drew | (refine bl_set ?_ (by first | exact Nat.le_refl _ | (simp; done) | (simp; omega)) _) | (refine bl_trans ?_ (by assumption))))) hm).mono ?_; rintro e w1 ⟨rfl, d1, rfl⟩) | (go_at_call 39; refine (l02Level_any _ _).mono ?_; rintro e w' ⟨rfl, rfl⟩) | (go_at_call 40; refine (l00In_any _ _ _ _).mono ?_; rintro e w' ⟨rfl, rfl⟩))
            refine bodyPost_ret (v := .tuple #[.agg #[.slice none 0 0, .slice none 0 0], .int .i64 2]) (by simp [results, Try.results12, go_sem]) rfl ?_
            rw [H.out.1, H.out.2, HC.out]
            exact ⟨none, 0, none, 0, rfl, OwnC.nil _ _ _ _, OwnC.nil _ _ _ _, Apart.none _, by repeat (first | exact Below.refl _ _ | assumption | apply bl_alloc | apply bl_drewN | apply Below.drew | (refine bl_set ?_ (by first | exact Nat.le_refl _ | (simp; done) | (simp; omega)) _) | (refine bl_trans ?_ (by assumption)))⟩
          · have a1 := lvl_of k1
            have b1 := lvl_of k2
            have s1 := inR_of k4
            have L0 := Lib.hid (landOk_of k0)
            have KO := Lib.hid (coOk_5 k1 k2 k3 k4)
            have K0 := Lib.hid k0
            have h144 := L0.out.2.2.2.2.1
            have st := stOf_spec s1.1 (Int.le_of_lt k3)
            have ST := Lib.hid st
            have sn : stOf a b s ≤ 4000 := by omega
            have VA := Lib.hid (volTo_bd L0.out.2.2.2.2.2 (y := a) (by omega) hs.length (Nat.le_refl _))
            clear st
            obtain ⟨i0, hi, hz0, hz1, hz2⟩ := info_parts infoInt
            go_enter Try.func12, Try.ntmps12
            go_wp2_with (first | (go_at_call 38; refine (l03Ok_any _ w.heap.size r c A k hs (by simp [go_sem]) (by simp [go_sem]) (by simp [go_sem]) (HA.out.below (by repeat (first | exact Below.refl _ _ | assumption | apply bl_alloc | apply bl_drewN | apply Below.drew | (refine bl_set ?_ (by first | exact Nat.le_refl _ | (simp; done) | (simp; omega)) _) | (refine bl_trans ?_ (by assumption))))) hm).mono ?_; rintro e w1 ⟨rfl, d1, rfl⟩) | (go_at_call 39; refine (l02Level_any _ _).mono ?_; rintro e w' ⟨rfl, rfl⟩) | (go_at_call 40; refine (l00In_any _ _ _ _).mono ?_; rintro e w' ⟨rfl, rfl⟩) | (go_at_call 41; refine (l03Volume_any _ w.heap.size A k hs a (by simp [go_sem]) (HA.out.below (by repeat (first | exact Below.refl _ _ | assumption | apply bl_alloc | apply bl_drewN | apply Below.drew | (refine bl_set ?_ (by first | exact Nat.le_refl _ | (simp; done) | (simp; omega)) _) | (refine bl_trans ?_ (by assumption))))) hm L0.out.2.2.2.2.2 h144 (by omega)).mono ?_; rintro e w' ⟨rfl, rfl⟩))
            go_loopg [12] (stOf a b s) (fun m i wr => ∃ j, j ≤ stOf a b s ∧ j ≤ 12 ∧ m = stOf a b s - j ∧ i = .int .i64 (lvK a s j) ∧ (∃ A1 c1 A2 c2, wr.heap[(w.heap.size + 4)]? = some (.cells #[.slice A1 j c1, .slice A2 j c2] 32 (0, 0)) ∧ Own2 wr (w.heap.size + 2) (w.heap.size + 4) 2 (.slice A1 j c1) (clTo a s j) (.slice A2 j c2) (cuTo hs a s j)) ∧ wr.heap[w.heap.size]? = some (.cells #[.int .i64 r, .int .i64 c, .slice A hs.length k] 35 (0, 0)) ∧ wr.heap[w.heap.size + 1]? = some (.cells #[.slice none 0 0, .slice none 0 0] 32 (0, 0)) ∧ Below w.heap.size w wr)
            case atStart => exact ⟨0, Nat.zero_le _, Nat.zero_le _, rfl, rfl, ⟨some ⟨w.heap.size + 2, 0, none⟩, 0, some ⟨w.heap.size + 3, 0, none⟩, 0, by repeat (first | (refine blk_new ?_; (first | rfl | (simp; done) | (simp; omega))) | refine blk_drewN ?_ | refine blk_old ?_), own2_start _ (by simp) (Nat.le_refl _)⟩, by repeat (first | (refine blk_new ?_; (first | rfl | (simp; done) | (simp; omega))) | refine blk_drewN ?_ | refine blk_old ?_), by repeat (first | (refine blk_new ?_; (first | rfl | (simp; done) | (simp; omega))) | refine blk_drewN ?_ | refine blk_old ?_), by repeat (first | exact Below.refl _ _ | assumption | apply bl_alloc | apply bl_drewN | apply Below.drew | (refine bl_set ?_ (by first | exact Nat.le_refl _ | (simp; done) | (simp; omega)) _) | (refine bl_trans ?_ (by assumption)))⟩
            case round =>
              obtain ⟨j, hj, hj12, hgj, rfl, ⟨A1, c1, A2, c2, kc, hO⟩, kx, kr, hb⟩ := hrel
              obtain ⟨x0, x1, xf0, xf1, xl⟩ := cells_two kc (Below.refl _ _)
              obtain ⟨kr0, kr1, kf0, kf1, krl⟩ := cells_two kr (Below.refl _ _)
              have HGK := Lib.hid hgj
              have HN1 := Lib.hid (clTo_len a s j)
              have HN2 := Lib.hid (cuTo_len hs a s j)
              have VC := VA.out
              have zb := hb.size
              clear hgj
              by_cases hlt : j < stOf a b s
              · have h5 := ST.out.1 j hlt
                have h6 := lvK_bd s1.1 (a := a) j
                by_cases h12 : (12 : Int) ≤ (j : Int)
                · have HC := Lib.hid (co_bad3 K0.out KO.out (by omega))
                  have H := Lib.hid (co_no HC.out (by omega))
                  go_wp2
                  refine bodyPost_ret (v := .tuple #[.agg #[.slice none 0 0, .slice none 0 0], .int .i64 5]) (by simp [results, Try.results12, go_sem, kr0, kr1]) rfl ?_
                  rw [H.out.1, H.out.2, HC.out]
                  exact ⟨none, 0, none, 0, rfl, OwnC.nil _ _ _ _, OwnC.nil _ _ _ _, Apart.none _, by repeat (first | exact Below.refl _ _ | assumption | apply bl_alloc | apply bl_drewN | apply Below.drew | (refine bl_set ?_ (by first | exact Nat.le_refl _ | (simp; done) | (simp; omega)) _) | (refine bl_trans ?_ (by assumption)))⟩
                · obtain ⟨y, hy⟩ : ∃ y, y = lvK a s j := ⟨_, rfl⟩
                  have HS := Lib.hid (show clTo a s (j + 1) = clTo a s j ++ [y] by rw [hy]; rfl)
                  have HS2 := Lib.hid (show cuTo hs a s (j + 1) = cuTo hs a s j ++ [volTo hs y hs.length - volTo hs a hs.length] by rw [hy]; exact cuTo_next _ _ _ _)
                  have HY := Lib.hid (show lvK a s (j + 1) = y + s by rw [hy]; rfl)
                  rw [← hy] at h5 h6 ⊢
                  have VB := volTo_bd L0.out.2.2.2.2.2 (y := y) (by omega) hs.length (Nat.le_refl _)
                  clear hy
                  go_wp2_with (at_builtin; refine wpList_append_lies _ rfl _ _ 22 rfl (w.heap.size + 2) 2 i0 (.int .i64 0) 1 8 Try.underlying22 hi hz0 hz1 hz2 rfl (by decide) _ _ _ rfl ((hO.an HN1.out).alloc _) ⟨wr.heap.size, 0, none⟩ 1 1 [.int .i64 y] rfl rfl (by first | exact app_news (heap_alloc_new _ _) | exact app_news (heap_alloc_new wr _)) (app_one _) (by decide) (by have := hj12; unfold maxLen; omega) (by have := hj12; omega) (by simp; omega) (wr.heap.size + 1) (by simp) ?_; intro g cap w3 hown3 hgrow3 hat3 hlt3; have kc3 := (hO.alloc (.cells #[.int .i64 y] 2)).keepL hgrow3 (blk_old kc) (.inl rfl); obtain ⟨v0, v1, vf0, vf1, vl⟩ := cells_two kc3 (Below.refl _ _); have O3 := Lib.hid ((hO.alloc (.cells #[.int .i64 y] 2)).leftN HN1.out hown3 hgrow3 hat3 (by simp) HS.out); have R2 := Lib.hid ((hO.alloc (.cells #[.int .i64 y] 2)).belowL (bl_alloc hb _) (by omega) hgrow3); have R3 := Lib.hid ((hO.alloc (.cells #[.int .i64 y] 2)).keepL hgrow3 (blk_old kx) (.inr (by omega))); have R4 := Lib.hid ((hO.alloc (.cells #[.int .i64 y] 2)).keepL hgrow3 (blk_old kr) (.inr (by omega))); clear hown3 hgrow3 hat3 hlt3)
                  obtain ⟨W4, hW4⟩ : ∃ W4, W4 = w3.setCell ⟨(w.heap.size + 4), 0, none⟩ (.slice (some ⟨g, 0, none⟩) (j + 1) cap) := ⟨_, rfl⟩
                  have K4 := Lib.hid (show W4.heap[(w.heap.size + 4)]? = some (.cells #[.slice (some ⟨g, 0, none⟩) (j + 1) cap, .slice A2 j c2] 32 (0, 0)) from by rw [hW4]; exact heap_setCell_same _ _ 0 _ _ _ kc3)
                  have O4 := Lib.hid (show Own2 W4 (w.heap.size + 2) (w.heap.size + 4) 2 (.slice (some ⟨g, 0, none⟩) (j + 1) cap) _ (.slice A2 j c2) (cuTo hs a s j) from by rw [hW4]; exact O3.out.set 0 _)
                  have X4 := Lib.hid (show W4.heap[w.heap.size]? = some (.cells #[.int .i64 r, .int .i64 c, .slice A hs.length k] 35 (0, 0)) from by rw [hW4]; exact kb_set R3.out (by first | (simp; done) | (simp; omega)))
                  have Y4 := Lib.hid (show W4.heap[w.heap.size + 1]? = some (.cells #[.slice none 0 0, .slice none 0 0] 32 (0, 0)) from by rw [hW4]; exact kb_set R4.out (by first | (simp; done) | (simp; omega)))
                  have B4 := Lib.hid (show Below w.heap.size w W4 from by rw [hW4]; exact bl_set R2.out (by simp) _)
                  rw [← hW4]
                  clear hW4 kc3 v0 v1 vf0 vf1 vl O3 R2 R3 R4 hO hb kc kx kr x0 x1 xf0 xf1 xl
                  obtain ⟨x0, x1, xf0, xf1, xl⟩ := cells_two K4.out (Below.refl _ _)
                  obtain ⟨hc0, hc1, hc2, hxl⟩ := row_three X4.out
                  have z4 := B4.out.size
                  have W1 : IntKind.i64.wrap ((volTo hs y hs.length - volTo hs a hs.length)) = (volTo hs y hs.length - volTo hs a hs.length) := IntWalk.i64_in _ (by omega)
                  go_wp2
                  refine region_cutH (S := fun w' => w'.cell? ⟨(w.heap.size + 4), 1, none⟩ = some (.slice A2 j c2)) 8 (by kernel_rfl) (by kernel_rfl) ?hS14 (fun hHeld => ?hR14)
                  case hS14 => (repeat (first | with_reducible assumption | with_reducible refine kc_drew ?_ | with_reducible refine kc_drewN ?_ | with_reducible refine kc_alloc ?_ | with_reducible refine kc_set ?_ (by first | omega | (simp; done) | (simp; omega))))
                  simp only [List.take_succ_cons, List.take_zero, List.drop_succ_cons, List.drop_zero]
                  refine wpAnyH_take (i := 0) (v := ?hv15) rfl (by kernel_rfl) (by kernel_rfl) (by kernel_rfl) (fun _ _ _ h => h) (Or.inl ⟨by rfl, ?hy15⟩) (by assumption) ?hR15
                  case hy15 => (intro wq hSw; (try dsimp only at hSw); go_simp; (try with_reducible rfl))
                  simp only [Act.put, List.setIfInBounds_toArray, List.set_cons_zero, List.set_cons_succ]
                  refine wpAnyH_take (i := 1) (v := ?hv16) rfl (by kernel_rfl) (by kernel_rfl) (by kernel_rfl) (fun _ _ _ h => h) (Or.inl ⟨by rfl, ?hy16⟩) (by assumption) ?hR16
                  case hy16 => (intro wq hSw; (try dsimp only at hSw); go_simp; (try with_reducible rfl))
                  simp only [Act.put, List.setIfInBounds_toArray, List.set_cons_zero, List.set_cons_succ]
                  refine wpAnyH_take (i := 2) (v := ?hv17) rfl (by kernel_rfl) (by kernel_rfl) (by kernel_rfl) (fun _ _ _ h => h) (Or.inl ⟨by rfl, ?hy17⟩) (by assumption) ?hR17
                  case hy17 => (intro wq hSw; (try dsimp only at hSw); go_simp; (try with_reducible rfl))
                  simp only [Act.put, List.setIfInBounds_toArray, List.set_cons_zero, List.set_cons_succ]
                  refine wpAnyH_take (i := 4) (v := ?hv18) rfl (by kernel_rfl) (by kernel_rfl) (by kernel_rfl) (fun _ _ _ h => h) (Or.inl ⟨by rfl, ?hy18⟩) (by assumption) ?hR18
                  case hy18 => (intro wq hSw; (try dsimp only at hSw); go_simp; (try with_reducible rfl))
                  simp only [Act.put, List.setIfInBounds_toArray, List.set_cons_zero, List.set_cons_succ]
                  refine wpAnyH_ready (rs := [3]) (by kernel_rfl) (by simp) (AllReadyH.cons rfl (fun K hK => ?hR19) AllReadyH.nil)
                  go_simp
                  (go_at_call 41; refine (l03Volume_any _ w.heap.size A k hs y (kc_drew hc2) (HA.out.below (show Below w.heap.size w W4.drew from B4.out.drew)) hm L0.out.2.2.2.2.2 h144 (by omega)).mono ?_; rintro e w' ⟨rfl, rfl⟩)
                  (try go_wp2_with fail)
                  clear hHeld
                  refine hK.out _ _ ?hS19 (fun hHeld => ?hT19)
                  case hS19 => (repeat (first | with_reducible assumption | with_reducible refine kc_drew ?_ | with_reducible refine kc_drewN ?_ | with_reducible refine kc_alloc ?_ | with_reducible refine kc_set ?_ (by first | omega | (simp; done) | (simp; omega))))
                  clear hK K
                  (try simp only [Act.put, List.setIfInBounds_toArray, List.set_cons_zero, List.set_cons_succ])
                  refine wpAnyH_take (i := 5) (v := ?hv20) rfl (by kernel_rfl) (by kernel_rfl) (by kernel_rfl) (fun _ _ _ h => h) (Or.inl ⟨by rfl, ?hy20⟩) (by assumption) ?hR20
                  case hy20 => (intro wq hSw; (try dsimp only at hSw); go_simp; (try with_reducible rfl))
                  simp only [Act.put, List.setIfInBounds_toArray, List.set_cons_zero, List.set_cons_succ]
                  refine wpAnyH_ready (rs := [6]) (by kernel_rfl) (by simp) (AllReadyH.cons rfl (fun K hK => ?hR21) AllReadyH.nil)
                  go_simp
                  clear hHeld
                  refine hK.out _ _ ?hS21 (fun hHeld => ?hT21)
                  case hS21 => (repeat (first | with_reducible assumption | with_reducible refine kc_drew ?_ | with_reducible refine kc_drewN ?_ | with_reducible refine kc_alloc ?_ | with_reducible refine kc_set ?_ (by first | omega | (simp; done) | (simp; omega))))
                  clear hK K
                  (try simp only [Act.put, List.setIfInBounds_toArray, List.set_cons_zero, List.set_cons_succ])
                  refine wpAnyH_ready (rs := [7]) (by kernel_rfl) (by simp) (AllReadyH.cons rfl (fun K hK => ?hR22) AllReadyH.nil)
                  (refine step_append_lies _ (by rfl) _ _ _ (by rfl) (w.heap.size + 2) 2 i0 (.int .i64 0) 1 8 Try.underlying22 hi hz0 hz1 hz2 rfl (by decide) (.slice A2 j c2) j (ints (cuTo hs a s j)) (by rfl) (((O4.out.bn HN2.out).alloc _)) ⟨W4.heap.size, 0, none⟩ 1 1 [.int .i64 (volTo hs y hs.length - volTo hs a hs.length)] (by rfl) (by rfl) (app_news (heap_alloc_new W4 _)) (app_one _) (by decide) (by unfold maxLen; omega) (by omega) (by simp; omega) (W4.heap.size + 1) (by simp) ?_; intro g2 cap2 w7 hown7 hgrow7 hat7 hlt7; have kc7 := (O4.out.alloc (.cells #[.int .i64 (volTo hs y hs.length - volTo hs a hs.length)] 2)).drew.keepR hgrow7 (blk_drew (blk_old K4.out)) (.inl rfl); obtain ⟨u0, u1, uf0, uf1, ul⟩ := cells_two kc7 (Below.refl _ _); have O7 := Lib.hid ((O4.out.alloc (.cells #[.int .i64 (volTo hs y hs.length - volTo hs a hs.length)] 2)).drew.rightN HN2.out hown7 hgrow7 hat7 (by simp) HS2.out); have R7 := Lib.hid ((O4.out.alloc (.cells #[.int .i64 (volTo hs y hs.length - volTo hs a hs.length)] 2)).drew.belowR (bl_alloc B4.out _).drew (by omega) hgrow7); have X7 := Lib.hid ((O4.out.alloc (.cells #[.int .i64 (volTo hs y hs.length - volTo hs a hs.length)] 2)).drew.keepR hgrow7 (blk_drew (blk_old X4.out)) (.inr (by omega))); have Y7 := Lib.hid ((O4.out.alloc (.cells #[.int .i64 (volTo hs y hs.length - volTo hs a hs.length)] 2)).drew.keepR hgrow7 (blk_drew (blk_old Y4.out)) (.inr (by omega))); obtain ⟨g0, g1, g2', gl⟩ := row_three X7.out; clear hown7 hgrow7 hat7 hlt7)
                  clear hHeld
                  refine hK.out _ _ ?hS22 (fun hHeld => ?hT22)
                  case hS22 => (repeat (first | with_reducible assumption | with_reducible refine kc_drew ?_ | with_reducible refine kc_drewN ?_ | with_reducible refine kc_alloc ?_ | with_reducible refine kc_set ?_ (by first | omega | (simp; done) | (simp; omega))))
                  clear hK K
                  (try simp only [Act.put, List.setIfInBounds_toArray, List.set_cons_zero, List.set_cons_succ])
                  refine wpAnyH_done (by kernel_rfl) ?hR23 _
                  show wpList _ _ _ _ _ _
                  go_wp2
                  go_roundg (stOf a b s - (j + 1))
                  case measure => rw [HGK.out]; omega
                  case rel => exact ⟨j + 1, by omega, by omega, rfl, by rw [HY.out], ⟨some ⟨g, 0, none⟩, cap, some ⟨g2, 0, none⟩, cap2, heap_setCell_same _ _ 1 _ _ _ kc7, O7.out.set 1 _⟩, kb_set X7.out (by first | (simp; done) | (simp; omega)), kb_set Y7.out (by first | (simp; done) | (simp; omega)), by have r2 := R7.out; repeat (first | exact Below.refl _ _ | assumption | apply bl_alloc | apply bl_drewN | apply Below.drew | (refine bl_set ?_ (by first | exact Nat.le_refl _ | (simp; done) | (simp; omega)) _) | (refine bl_trans ?_ (by assumption)))⟩
              · obtain rfl : j = stOf a b s := by omega
                have h5 := ST.out.2.1
                by_cases h12 : (12 : Int) ≤ ((stOf a b s : Nat) : Int)
                · have HC := Lib.hid (co_bad3 K0.out KO.out (by omega))
                  have H := Lib.hid (co_no HC.out (by omega))
                  go_wp2
                  refine bodyPost_ret (v := .tuple #[.agg #[.slice none 0 0, .slice none 0 0], .int .i64 5]) (by simp [results, Try.results12, go_sem, kr0, kr1]) rfl ?_
                  rw [H.out.1, H.out.2, HC.out]
                  exact ⟨none, 0, none, 0, rfl, OwnC.nil _ _ _ _, OwnC.nil _ _ _ _, Apart.none _, by repeat (first | exact Below.refl _ _ | assumption | apply bl_alloc | apply bl_drewN | apply Below.drew | (refine bl_set ?_ (by first | exact Nat.le_refl _ | (simp; done) | (simp; omega)) _) | (refine bl_trans ?_ (by assumption)))⟩
                · have HS := Lib.hid (show clL a b s = clTo a s (stOf a b s) ++ [b] from rfl)
                  have HS2 := Lib.hid (cuTo_last hs a b s)
                  have VB := volTo_bd L0.out.2.2.2.2.2 (y := b) (by omega) hs.length (Nat.le_refl _)
                  go_wp2_with (at_builtin; refine wpList_append_lies _ rfl _ _ 22 rfl (w.heap.size + 2) 2 i0 (.int .i64 0) 1 8 Try.underlying22 hi hz0 hz1 hz2 rfl (by decide) _ _ _ rfl ((hO.an HN1.out).alloc _) ⟨wr.heap.size, 0, none⟩ 1 1 [.int .i64 b] rfl rfl (by first | exact app_news (heap_alloc_new _ _) | exact app_news (heap_alloc_new wr _)) (app_one _) (by decide) (by have := hj12; unfold maxLen; omega) (by have := hj12; omega) (by simp; omega) (wr.heap.size + 1) (by simp) ?_; intro g cap w3 hown3 hgrow3 hat3 hlt3; have kc3 := (hO.alloc (.cells #[.int .i64 b] 2)).keepL hgrow3 (blk_old kc) (.inl rfl); obtain ⟨v0, v1, vf0, vf1, vl⟩ := cells_two kc3 (Below.refl _ _); have O3 := Lib.hid ((hO.alloc (.cells #[.int .i64 b] 2)).leftN HN1.out hown3 hgrow3 hat3 (by simp) HS.out); have R2 := Lib.hid ((hO.alloc (.cells #[.int .i64 b] 2)).belowL (bl_alloc hb _) (by omega) hgrow3); have R3 := Lib.hid ((hO.alloc (.cells #[.int .i64 b] 2)).keepL hgrow3 (blk_old kx) (.inr (by omega))); have R4 := Lib.hid ((hO.alloc (.cells #[.int .i64 b] 2)).keepL hgrow3 (blk_old kr) (.inr (by omega))); clear hown3 hgrow3 hat3 hlt3)
                  obtain ⟨W4, hW4⟩ : ∃ W4, W4 = w3.setCell ⟨(w.heap.size + 4), 0, none⟩ (.slice (some ⟨g, 0, none⟩) ((stOf a b s) + 1) cap) := ⟨_, rfl⟩
                  have K4 := Lib.hid (show W4.heap[(w.heap.size + 4)]? = some (.cells #[.slice (some ⟨g, 0, none⟩) ((stOf a b s) + 1) cap, .slice A2 (stOf a b s) c2] 32 (0, 0)) from by rw [hW4]; exact heap_setCell_same _ _ 0 _ _ _ kc3)
                  have O4 := Lib.hid (show Own2 W4 (w.heap.size + 2) (w.heap.size + 4) 2 (.slice (some ⟨g, 0, none⟩) ((stOf a b s) + 1) cap) _ (.slice A2 (stOf a b s) c2) (cuTo hs a s (stOf a b s)) from by rw [hW4]; exact O3.out.set 0 _)
                  have X4 := Lib.hid (show W4.heap[w.heap.size]? = some (.cells #[.int .i64 r, .int .i64 c, .slice A hs.length k] 35 (0, 0)) from by rw [hW4]; exact kb_set R3.out (by first | (simp; done) | (simp; omega)))
                  have Y4 := Lib.hid (show W4.heap[w.heap.size + 1]? = some (.cells #[.slice none 0 0, .slice none 0 0] 32 (0, 0)) from by rw [hW4]; exact kb_set R4.out (by first | (simp; done) | (simp; omega)))
                  have B4 := Lib.hid (show Below w.heap.size w W4 from by rw [hW4]; exact bl_set R2.out (by simp) _)
                  rw [← hW4]
                  clear hW4 kc3 v0 v1 vf0 vf1 vl O3 R2 R3 R4 hO hb kc kx kr x0 x1 xf0 xf1 xl
                  obtain ⟨x0, x1, xf0, xf1, xl⟩ := cells_two K4.out (Below.refl _ _)
                  obtain ⟨hc0, hc1, hc2, hxl⟩ := row_three X4.out
                  have z4 := B4.out.size
                  have W1 : IntKind.i64.wrap ((volTo hs b hs.length - volTo hs a hs.length)) = (volTo hs b hs.length - volTo hs a hs.length) := IntWalk.i64_in _ (by omega)
                  go_wp2
                  refine region_cutH (S := fun w' => w'.cell? ⟨(w.heap.size + 4), 1, none⟩ = some (.slice A2 (stOf a b s) c2)) 8 (by kernel_rfl) (by kernel_rfl) ?hS24 (fun hHeld => ?hR24)
                  case hS24 => (repeat (first | with_reducible assumption | with_reducible refine kc_drew ?_ | with_reducible refine kc_drewN ?_ | with_reducible refine kc_alloc ?_ | with_reducible refine kc_set ?_ (by first | omega | (simp; done) | (simp; omega))))
                  simp only [List.take_succ_cons, List.take_zero, List.drop_succ_cons, List.drop_zero]
                  refine wpAnyH_take (i := 0) (v := ?hv25) rfl (by kernel_rfl) (by kernel_rfl) (by kernel_rfl) (fun _ _ _ h => h) (Or.inl ⟨by rfl, ?hy25⟩) (by assumption) ?hR25
                  case hy25 => (intro wq hSw; (try dsimp only at hSw); go_simp; (try with_reducible rfl))
                  simp only [Act.put, List.setIfInBounds_toArray, List.set_cons_zero, List.set_cons_succ]
                  refine wpAnyH_take (i := 1) (v := ?hv26) rfl (by kernel_rfl) (by kernel_rfl) (by kernel_rfl) (fun _ _ _ h => h) (Or.inl ⟨by rfl, ?hy26⟩) (by assumption) ?hR26
                  case hy26 => (intro wq hSw; (try dsimp only at hSw); go_simp; (try with_reducible rfl))
                  simp only [Act.put, List.setIfInBounds_toArray, List.set_cons_zero, List.set_cons_succ]
                  refine wpAnyH_take (i := 2) (v := ?hv27) rfl (by kernel_rfl) (by kernel_rfl) (by kernel_rfl) (fun _ _ _ h => h) (Or.inl ⟨by rfl, ?hy27⟩) (by assumption) ?hR27
                  case hy27 => (intro wq hSw; (try dsimp only at hSw); go_simp; (try with_reducible rfl))
                  simp only [Act.put, List.setIfInBounds_toArray, List.set_cons_zero, List.set_cons_succ]
                  refine wpAnyH_take (i := 4) (v := ?hv28) rfl (by kernel_rfl) (by kernel_rfl) (by kernel_rfl) (fun _ _ _ h => h) (Or.inl ⟨by rfl, ?hy28⟩) (by assumption) ?hR28
                  case hy28 => (intro wq hSw; (try dsimp only at hSw); go_simp; (try with_reducible rfl))
                  simp only [Act.put, List.setIfInBounds_toArray, List.set_cons_zero, List.set_cons_succ]
                  refine wpAnyH_ready (rs := [3]) (by kernel_rfl) (by simp) (AllReadyH.cons rfl (fun K hK => ?hR29) AllReadyH.nil)
                  go_simp
                  (go_at_call 41; refine (l03Volume_any _ w.heap.size A k hs b (kc_drew hc2) (HA.out.below (show Below w.heap.size w W4.drew from B4.out.drew)) hm L0.out.2.2.2.2.2 h144 (by omega)).mono ?_; rintro e w' ⟨rfl, rfl⟩)
                  (try go_wp2_with fail)
                  clear hHeld
                  refine hK.out _ _ ?hS29 (fun hHeld => ?hT29)
                  case hS29 => (repeat (first | with_reducible assumption | with_reducible refine kc_drew ?_ | with_reducible refine kc_drewN ?_ | with_reducible refine kc_alloc ?_ | with_reducible refine kc_set ?_ (by first | omega | (simp; done) | (simp; omega))))
                  clear hK K
                  (try simp only [Act.put, List.setIfInBounds_toArray, List.set_cons_zero, List.set_cons_succ])
                  refine wpAnyH_take (i := 5) (v := ?hv30) rfl (by kernel_rfl) (by kernel_rfl) (by kernel_rfl) (fun _ _ _ h => h) (Or.inl ⟨by rfl, ?hy30⟩) (by assumption) ?hR30
                  case hy30 => (intro wq hSw; (try dsimp only at hSw); go_simp; (try with_reducible rfl))
                  simp only [Act.put, List.setIfInBounds_toArray, List.set_cons_zero, List.set_cons_succ]
                  refine wpAnyH_ready (rs := [6]) (by kernel_rfl) (by simp) (AllReadyH.cons rfl (fun K hK => ?hR31) AllReadyH.nil)
                  go_simp
                  clear hHeld
                  refine hK.out _ _ ?hS31 (fun hHeld => ?hT31)
                  case hS31 => (repeat (first | with_reducible assumption | with_reducible refine kc_drew ?_ | with_reducible refine kc_drewN ?_ | with_reducible refine kc_alloc ?_ | with_reducible refine kc_set ?_ (by first | omega | (simp; done) | (simp; omega))))
                  clear hK K
                  (try simp only [Act.put, List.setIfInBounds_toArray, List.set_cons_zero, List.set_cons_succ])
                  refine wpAnyH_ready (rs := [7]) (by kernel_rfl) (by simp) (AllReadyH.cons rfl (fun K hK => ?hR32) AllReadyH.nil)
                  (refine step_append_lies _ (by rfl) _ _ _ (by rfl) (w.heap.size + 2) 2 i0 (.int .i64 0) 1 8 Try.underlying22 hi hz0 hz1 hz2 rfl (by decide) (.slice A2 (stOf a b s) c2) (stOf a b s) (ints (cuTo hs a s (stOf a b s))) (by rfl) (((O4.out.bn HN2.out).alloc _)) ⟨W4.heap.size, 0, none⟩ 1 1 [.int .i64 (volTo hs b hs.length - volTo hs a hs.length)] (by rfl) (by rfl) (app_news (heap_alloc_new W4 _)) (app_one _) (by decide) (by unfold maxLen; omega) (by omega) (by simp; omega) (W4.heap.size + 1) (by simp) ?_; intro g2 cap2 w7 hown7 hgrow7 hat7 hlt7; have kc7 := (O4.out.alloc (.cells #[.int .i64 (volTo hs b hs.length - volTo hs a hs.length)] 2)).drew.keepR hgrow7 (blk_drew (blk_old K4.out)) (.inl rfl); obtain ⟨u0, u1, uf0, uf1, ul⟩ := cells_two kc7 (Below.refl _ _); have O7 := Lib.hid ((O4.out.alloc (.cells #[.int .i64 (volTo hs b hs.length - volTo hs a hs.length)] 2)).drew.rightN HN2.out hown7 hgrow7 hat7 (by simp) HS2.out); have R7 := Lib.hid ((O4.out.alloc (.cells #[.int .i64 (volTo hs b hs.length - volTo hs a hs.length)] 2)).drew.belowR (bl_alloc B4.out _).drew (by omega) hgrow7); have X7 := Lib.hid ((O4.out.alloc (.cells #[.int .i64 (volTo hs b hs.length - volTo hs a hs.length)] 2)).drew.keepR hgrow7 (blk_drew (blk_old X4.out)) (.inr (by omega))); have Y7 := Lib.hid ((O4.out.alloc (.cells #[.int .i64 (volTo hs b hs.length - volTo hs a hs.length)] 2)).drew.keepR hgrow7 (blk_drew (blk_old Y4.out)) (.inr (by omega))); obtain ⟨g0, g1, g2', gl⟩ := row_three X7.out; clear hown7 hgrow7 hat7 hlt7)
                  clear hHeld
                  refine hK.out _ _ ?hS32 (fun hHeld => ?hT32)
                  case hS32 => (repeat (first | with_reducible assumption | with_reducible refine kc_drew ?_ | with_reducible refine kc_drewN ?_ | with_reducible refine kc_alloc ?_ | with_reducible refine kc_set ?_ (by first | omega | (simp; done) | (simp; omega))))
                  clear hK K
                  (try simp only [Act.put, List.setIfInBounds_toArray, List.set_cons_zero, List.set_cons_succ])
                  refine wpAnyH_done (by kernel_rfl) ?hR33 _
                  show wpList _ _ _ _ _ _
                  go_wp2_with fail
                  have K8 := Lib.hid (heap_setCell_same _ _ 1 _ _ (.slice (some ⟨g2, 0, none⟩) (stOf a b s + 1) cap2) kc7)
                  have O8 := O7.out.set 1 (.slice (some ⟨g2, 0, none⟩) (stOf a b s + 1) cap2)
                  have Y8 := Lib.hid (kb_set (u := .slice (some ⟨g2, 0, none⟩) (stOf a b s + 1) cap2) (p := ⟨(w.heap.size + 4), 1, none⟩) Y7.out (by first | (simp; done) | (simp; omega)))
                  have B8 := Lib.hid (bl_set (p := ⟨(w.heap.size + 4), 1, none⟩) R7.out (by simp) (.slice (some ⟨g2, 0, none⟩) (stOf a b s + 1) cap2))
                  have CL := Lib.hid (clL_len a b s)
                  have CV := Lib.hid (cvL_len hs a b s)
                  obtain ⟨o1, o2, ap⟩ := O8.endsN CL.out CV.out
                  obtain ⟨y0, y1, yf0, yf1, yl⟩ := cells_two K8.out (Below.refl _ _)
                  clear O8 u0 u1 uf0 uf1 ul kc7 x0 x1 xf0 xf1 xl kr0 kr1 kf0 kf1 krl
                  have HVC := Lib.hid (fun (v : Bool) (hv : curveOk (clL a b s) (cvL hs a b s) = v) => (by
                    have h := l05Ok_any (w7.setCell ⟨(w.heap.size + 4), 1, none⟩ (.slice (some ⟨g2, 0, none⟩) (stOf a b s + 1) cap2)) (w.heap.size + 4) (some ⟨g, 0, none⟩) (some ⟨g2, 0, none⟩) cap cap2 (clL a b s) (cvL hs a b s) (by rw [CL.out]; exact y0) (by rw [CV.out]; exact y1) o1.rc o2.rc (by rw [CL.out]; omega) (by rw [CV.out]; omega)
                    rw [hv] at h
                    exact h : Calls Try.prog 42 #[.pointer (some ⟨(w.heap.size + 4), 0, none⟩)] (w7.setCell ⟨(w.heap.size + 4), 1, none⟩ (.slice (some ⟨g2, 0, none⟩) (stOf a b s + 1) cap2)) fun e w' => e = .returned (.bool v) ∧ Below (w7.setCell ⟨(w.heap.size + 4), 1, none⟩ (.slice (some ⟨g2, 0, none⟩) (stOf a b s + 1) cap2)).heap.size (w7.setCell ⟨(w.heap.size + 4), 1, none⟩ (.slice (some ⟨g2, 0, none⟩) (stOf a b s + 1) cap2)) w'))
                  cases k5 : curveOk (clL a b s) (cvL hs a b s)
                  · have HC := Lib.hid (co_bad4 K0.out KO.out (by omega) k5)
                    have H := Lib.hid (co_no HC.out (by omega))
                    have HV := HVC.out _ k5
                    go_at_call 42
                    refine HV.mono ?_
                    (rintro e w9 ⟨rfl, hb9⟩; have kr9 : w9.heap[w.heap.size + 1]? = some (.cells #[.slice none 0 0, .slice none 0 0] 32 (0, 0)) := keep_blk (hb := hb9) (h := Y8.out); obtain ⟨z0, z1, zf0, zf1, zl⟩ := cells_two kr9 (Below.refl _ _))
                    go_wp2
                    refine bodyPost_ret (v := .tuple #[.agg #[.slice none 0 0, .slice none 0 0], .int .i64 6]) (by simp [results, Try.results12, go_sem, z0, z1]) rfl ?_
                    rw [H.out.1, H.out.2, HC.out]
                    have b8 := B8.out
                    exact ⟨none, 0, none, 0, rfl, OwnC.nil _ _ _ _, OwnC.nil _ _ _ _, Apart.none _, by repeat (first | exact Below.refl _ _ | assumption | apply bl_alloc | apply bl_drewN | apply Below.drew | (refine bl_set ?_ (by first | exact Nat.le_refl _ | (simp; done) | (simp; omega)) _) | (refine bl_trans ?_ (by assumption)))⟩
                  · have HC := Lib.hid (co_ok K0.out KO.out (by omega) k5)
                    have H := Lib.hid (co_yes HC.out)
                    have HV := HVC.out _ k5
                    go_at_call 42
                    refine HV.mono ?_
                    (rintro e w9 ⟨rfl, hb9⟩; have kr9 : w9.heap[w.heap.size + 1]? = some (.cells #[.slice none 0 0, .slice none 0 0] 32 (0, 0)) := keep_blk (hb := hb9) (h := Y8.out); obtain ⟨z0, z1, zf0, zf1, zl⟩ := cells_two kr9 (Below.refl _ _); have kc9 := keep_blk (hb := hb9) (h := K8.out); obtain ⟨q0, q1, qf0, qf1, ql⟩ := cells_two kc9 (Below.refl _ _))
                    go_wp2
                    refine bodyPost_ret (v := .tuple #[.agg #[.slice (some ⟨g, 0, none⟩) (stOf a b s + 1) cap, .slice (some ⟨g2, 0, none⟩) (stOf a b s + 1) cap2], .int .i64 0]) (by simp [results, Try.results12, go_sem, z0, z1]) rfl ?_
                    rw [H.out.1, H.out.2, HC.out]
                    have z9 := hb9.size
                    simp at z9
                    have b8 := B8.out
                    have zr := b8.size
                    exact ⟨_, _, _, _, by rw [CL.out, CV.out], (((o1.below hb9).far (.inl (by simp)) _).far (.inl (by simp)) _).wide (by omega) (by simp; omega), (((o2.below hb9).far (.inl (by simp)) _).far (.inl (by simp)) _).wide (by omega) (by simp; omega), ap, by repeat (first | exact Below.refl _ _ | assumption | apply bl_alloc | apply bl_drewN | apply Below.drew | (refine bl_set ?_ (by first | exact Nat.le_refl _ | (simp; done) | (simp; omega)) _) | (refine bl_trans ?_ (by assumption)))⟩
        · skip
          have HC := Lib.hid (co_bad2 (s := s) k0 (coOk_3 k3))
          have H := Lib.hid (co_no HC.out (by omega))
          go_enter Try.func12, Try.ntmps12
          go_wp2_with (first | (go_at_call 38; refine (l03Ok_any _ w.heap.size r c A k hs (by simp [go_sem]) (by simp [go_sem]) (by simp [go_sem]) (HA.out.below (by repeat (first | exact Below.refl _ _ | assumption | apply bl_alloc | apply bl_drewN | apply Below.drew | (refine bl_set ?_ (by first | exact Nat.le_refl _ | (simp; done) | (simp; omega)) _) | (refine bl_trans ?_ (by assumption))))) hm).mono ?_; rintro e w1 ⟨rfl, d1, rfl⟩) | (go_at_call 39; refine (l02Level_any _ _).mono ?_; rintro e w' ⟨rfl, rfl⟩) | (go_at_call 40; refine (l00In_any _ _ _ _).mono ?_; rintro e w' ⟨rfl, rfl⟩))
          refine bodyPost_ret (v := .tuple #[.agg #[.slice none 0 0, .slice none 0 0], .int .i64 2]) (by simp [results, Try.results12, go_sem]) rfl ?_
          rw [H.out.1, H.out.2, HC.out]
          exact ⟨none, 0, none, 0, rfl, OwnC.nil _ _ _ _, OwnC.nil _ _ _ _, Apart.none _, by repeat (first | exact Below.refl _ _ | assumption | apply bl_alloc | apply bl_drewN | apply Below.drew | (refine bl_set ?_ (by first | exact Nat.le_refl _ | (simp; done) | (simp; omega)) _) | (refine bl_trans ?_ (by assumption)))⟩
end Go.Proofs.Ytcgnnlgakfndaaa
