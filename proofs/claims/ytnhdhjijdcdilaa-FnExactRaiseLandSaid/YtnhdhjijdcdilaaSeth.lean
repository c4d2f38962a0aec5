/-
  Contracts on lands, the sixth part: a height set, heights raised. They hold for every land of at most 1048576 heights.
-/
import Derived.Test.YtnhdhjijdcdilaaClone
import Derived.Test.YtnhdhjijdcdilaaLow
namespace Go.Proofs.Ytnhdhjijdcdilaa
set_option linter.unusedVariables false
open Go.RowKit

set_option maxHeartbeats 1600000 in
theorem l03Own_any (w : World) (p : Nat) (r c : Int) (A : Option Addr) (k : Nat) (hs : List Int) (hp0 : w.cell? ⟨p, 0, none⟩ = some (.int .i64 r)) (hp1 : w.cell? ⟨p, 1, none⟩ = some (.int .i64 c)) (hp2 : w.cell? ⟨p, 2, none⟩ = some (.slice A hs.length k)) (hpl : p < w.heap.size) (hA : RC w A (ints hs)) (hm : hs.length ≤ 1048576) (h1 : 1 ≤ hs.length) :
    Calls Try.prog 76 #[.pointer (some ⟨p, 0, none⟩)] w (NewLand r c hs w) := by
  have HA := Lib.hid hA
  clear hA
  have hpne : p ≠ w.heap.size := by omega
  go_enter Try.func76, Try.ntmps76
  go_wp2_with fail
  go_region_held3 (fun w' => w'.cell? ⟨p, 0, none⟩ = some (.int .i64 r) ∧ w'.cell? ⟨p, 1, none⟩ = some (.int .i64 c) ∧ w'.cell? ⟨p, 2, none⟩ = some (.slice A hs.length k)) (((try dsimp only); refine ⟨?_, ?_, ?_⟩ <;> (repeat (first | with_reducible assumption | with_reducible refine kc_drew ?_ | with_reducible refine kc_drewN ?_ | with_reducible refine kc_alloc ?_ | with_reducible refine kc_set ?_ (by first | omega | (simp; done) | (simp; omega)))))) (first | (go_at_call 98; refine (l00Own_any _ _ _ _ (HA.out.below (by repeat (first | exact Below.refl _ _ | assumption | apply bl_alloc | apply bl_drewN | apply Below.drew | (refine bl_set ?_ (by first | exact Nat.le_refl _ | (simp; done) | (simp; omega)) _) | (refine bl_trans ?_ (by assumption))))) hm h1).mono ?_; rintro e w1 ⟨A1, k1, rfl, ho, hb1⟩; have hp0 := ((show Below w.heap.size w w1 by repeat (first | exact Below.refl _ _ | assumption | apply bl_alloc | apply bl_drewN | apply Below.drew | (refine bl_set ?_ (by first | exact Nat.le_refl _ | (simp; done) | (simp; omega)) _) | (refine bl_trans ?_ (by assumption)))).cell (p := ⟨p, 0, none⟩) hpl).trans hp0; have hp1 := ((show Below w.heap.size w w1 by repeat (first | exact Below.refl _ _ | assumption | apply bl_alloc | apply bl_drewN | apply Below.drew | (refine bl_set ?_ (by first | exact Nat.le_refl _ | (simp; done) | (simp; omega)) _) | (refine bl_trans ?_ (by assumption)))).cell (p := ⟨p, 1, none⟩) hpl).trans hp1; have hp2 := ((show Below w.heap.size w w1 by repeat (first | exact Below.refl _ _ | assumption | apply bl_alloc | apply bl_drewN | apply Below.drew | (refine bl_set ?_ (by first | exact Nat.le_refl _ | (simp; done) | (simp; omega)) _) | (refine bl_trans ?_ (by assumption)))).cell (p := ⟨p, 2, none⟩) hpl).trans hp2; have kr : w1.heap[w.heap.size]? = some (.cells #[.int .i64 0, .int .i64 0, .slice none 0 0] 40 (0, 0)) := keep_blk (hb := hb1) (h := by repeat (first | (refine blk_new ?_; (first | rfl | (simp; done) | (simp; omega))) | refine blk_drewN ?_ | refine blk_old ?_)); obtain ⟨kr0, kr1, kr2, kf0, kf1, kf2, krl⟩ := cells_three kr (Below.refl _ _)))
  go_wp2
  exact bodyPost_ret (v := .agg #[.int .i64 r, .int .i64 c, .slice A1 hs.length k1]) (by simp [results, Try.results76, go_sem, kr0, kr1, kr2]) rfl
    ⟨A1, k1, rfl, (((ho.far (.inl (by first | (simp; done) | (simp; omega))) _).far (.inl (by first | (simp; done) | (simp; omega))) _).far (.inl (by first | (simp; done) | (simp; omega))) _).wide (by first | (simp; done) | (simp; omega)) (by first | (simp; done) | (simp; omega)), by repeat (first | exact Below.refl _ _ | assumption | apply bl_alloc | apply bl_drewN | apply Below.drew | (refine bl_set ?_ (by first | exact Nat.le_refl _ | (simp; done) | (simp; omega)) _) | (refine bl_trans ?_ (by assumption)))⟩
set_option maxHeartbeats 1600000 in
theorem implSetHeight (w : World) (r c : Int) (A : Option Addr) (k : Nat) (hs : List Int) (i j y : Int) (hA : RC w A (ints hs)) (hm : hs.length ≤ 1048576) : Calls Try.prog 38 #[.agg #[.int .i64 r, .int .i64 c, .slice A hs.length k], .int .i64 i, .int .i64 j, .int .i64 y] w (NewLandC (shX r c hs i j y r) (shX r c hs i j y c) (shL r c hs i j y) (shC r c hs i j y) w) := by
  have HA := Lib.hid hA
  clear hA
  cases k0 : landOk r c hs
  · skip
    have H := Lib.hid (sh_resno (sh_bad1 (i := i) (j := j) (y := y) k0) (by omega))
    go_enter Try.func38, Try.ntmps38
    go_wp2_with ((go_at_call 66; refine (implValidLand _ _ _ _ _ _ (HA.out.below (by repeat (first | exact Below.refl _ _ | assumption | apply bl_alloc | apply bl_drewN | apply Below.drew | (refine bl_set ?_ (by first | exact Nat.le_refl _ | (simp; done) | (simp; omega)) _) | (refine bl_trans ?_ (by assumption))))) hm).mono ?_; rintro e w1 ⟨rfl, hb1⟩; have hk : w1.heap[w.heap.size]? = some (.cells #[.int .i64 r, .int .i64 c, .slice A hs.length k] 40 (0, 0)) := keep_blk (hb := hb1) (h := by first | exact hk | (repeat (first | (refine blk_new ?_; (first | rfl | (simp; done) | (simp; omega))) | refine blk_drewN ?_ | refine blk_old ?_))); obtain ⟨hc0, hc1, hc2, hlt⟩ := row_three hk; have kr : w1.heap[w.heap.size + 1]? = some (.cells #[.int .i64 0, .int .i64 0, .slice none 0 0] 40 (0, 0)) := keep_blk (hb := hb1) (h := by first | exact kr | (repeat (first | (refine blk_new ?_; (first | rfl | (simp; done) | (simp; omega))) | refine blk_drewN ?_ | refine blk_old ?_))); obtain ⟨kr0, kr1, kr2, kf0, kf1, kf2, krl⟩ := cells_three kr (Below.refl _ _)))
    refine bodyPost_ret (v := .tuple #[.agg #[.int .i64 0, .int .i64 0, .slice none 0 0], .int .i64 1]) (by simp [results, Try.results38, go_sem, kr0, kr1, kr2]) rfl ?_
    rw [H.out.1, H.out.2.1, H.out.2.2.1, H.out.2.2.2]
    exact ⟨none, 0, rfl, OwnC.nil _ _ _ _, by repeat (first | exact Below.refl _ _ | assumption | apply bl_alloc | apply bl_drewN | apply Below.drew | (refine bl_set ?_ (by first | exact Nat.le_refl _ | (simp; done) | (simp; omega)) _) | (refine bl_trans ?_ (by assumption)))⟩
  · have l0 := landOk_of k0
    cases k1 : inR i 0 (r - 1)
    · skip
      have H := Lib.hid (sh_resno (sh_bad2 (j := j) (y := y) k0 k1) (by omega))
      go_enter Try.func38, Try.ntmps38
      go_wp2_with (first | (go_at_call 66; refine (implValidLand _ _ _ _ _ _ (HA.out.below (by repeat (first | exact Below.refl _ _ | assumption | apply bl_alloc | apply bl_drewN | apply Below.drew | (refine bl_set ?_ (by first | exact Nat.le_refl _ | (simp; done) | (simp; omega)) _) | (refine bl_trans ?_ (by assumption))))) hm).mono ?_; rintro e w1 ⟨rfl, hb1⟩; have hk : w1.heap[w.heap.size]? = some (.cells #[.int .i64 r, .int .i64 c, .slice A hs.length k] 40 (0, 0)) := keep_blk (hb := hb1) (h := by first | exact hk | (repeat (first | (refine blk_new ?_; (first | rfl | (simp; done) | (simp; omega))) | refine blk_drewN ?_ | refine blk_old ?_))); obtain ⟨hc0, hc1, hc2, hlt⟩ := row_three hk; have kr : w1.heap[w.heap.size + 1]? = some (.cells #[.int .i64 0, .int .i64 0, .slice none 0 0] 40 (0, 0)) := keep_blk (hb := hb1) (h := by first | exact kr | (repeat (first | (refine blk_new ?_; (first | rfl | (simp; done) | (simp; omega))) | refine blk_drewN ?_ | refine blk_old ?_))); obtain ⟨kr0, kr1, kr2, kf0, kf1, kf2, krl⟩ := cells_three kr (Below.refl _ _)) | (go_at_call 77; refine (cell_no _ _ _ _ _ _ _ _ l0.1 l0.2.1 k1).mono ?_; rintro e w1 ⟨x, rfl, hb1⟩; have hk : w1.heap[w.heap.size]? = some (.cells #[.int .i64 r, .int .i64 c, .slice A hs.length k] 40 (0, 0)) := keep_blk (hb := hb1) (h := by first | exact hk | (repeat (first | (refine blk_new ?_; (first | rfl | (simp; done) | (simp; omega))) | refine blk_drewN ?_ | refine blk_old ?_))); obtain ⟨hc0, hc1, hc2, hlt⟩ := row_three hk; have kr : w1.heap[w.heap.size + 1]? = some (.cells #[.int .i64 0, .int .i64 0, .slice none 0 0] 40 (0, 0)) := keep_blk (hb := hb1) (h := by first | exact kr | (repeat (first | (refine blk_new ?_; (first | rfl | (simp; done) | (simp; omega))) | refine blk_drewN ?_ | refine blk_old ?_))); obtain ⟨kr0, kr1, kr2, kf0, kf1, kf2, krl⟩ := cells_three kr (Below.refl _ _)))
      refine bodyPost_ret (v := .tuple #[.agg #[.int .i64 0, .int .i64 0, .slice none 0 0], .int .i64 2]) (by simp [results, Try.results38, go_sem, kr0, kr1, kr2]) rfl ?_
      rw [H.out.1, H.out.2.1, H.out.2.2.1, H.out.2.2.2]
      exact ⟨none, 0, rfl, OwnC.nil _ _ _ _, by repeat (first | exact Below.refl _ _ | assumption | apply bl_alloc | apply bl_drewN | apply Below.drew | (refine bl_set ?_ (by first | exact Nat.le_refl _ | (simp; done) | (simp; omega)) _) | (refine bl_trans ?_ (by assumption)))⟩
    · cases k2 : inR j 0 (c - 1)
      · skip
        have H := Lib.hid (sh_resno (sh_bad3 (i := i) (y := y) k0 k2) (by omega))
        go_enter Try.func38, Try.ntmps38
        go_wp2_with (first | (go_at_call 66; refine (implValidLand _ _ _ _ _ _ (HA.out.below (by repeat (first | exact Below.refl _ _ | assumption | apply bl_alloc | apply bl_drewN | apply Below.drew | (refine bl_set ?_ (by first | exact Nat.le_refl _ | (simp; done) | (simp; omega)) _) | (refine bl_trans ?_ (by assumption))))) hm).mono ?_; rintro e w1 ⟨rfl, hb1⟩; have hk : w1.heap[w.heap.size]? = some (.cells #[.int .i64 r, .int .i64 c, .slice A hs.length k] 40 (0, 0)) := keep_blk (hb := hb1) (h := by first | exact hk | (repeat (first | (refine blk_new ?_; (first | rfl | (simp; done) | (simp; omega))) | refine blk_drewN ?_ | refine blk_old ?_))); obtain ⟨hc0, hc1, hc2, hlt⟩ := row_three hk; have kr : w1.heap[w.heap.size + 1]? = some (.cells #[.int .i64 0, .int .i64 0, .slice none 0 0] 40 (0, 0)) := keep_blk (hb := hb1) (h := by first | exact kr | (repeat (first | (refine blk_new ?_; (first | rfl | (simp; done) | (simp; omega))) | refine blk_drewN ?_ | refine blk_old ?_))); obtain ⟨kr0, kr1, kr2, kf0, kf1, kf2, krl⟩ := cells_three kr (Below.refl _ _)) | (go_at_call 77; refine (cell_no2 _ _ _ _ _ _ _ _ l0.1 l0.2.1 k1 k2).mono ?_; rintro e w1 ⟨x, rfl, hb1⟩; have hk : w1.heap[w.heap.size]? = some (.cells #[.int .i64 r, .int .i64 c, .slice A hs.length k] 40 (0, 0)) := keep_blk (hb := hb1) (h := by first | exact hk | (repeat (first | (refine blk_new ?_; (first | rfl | (simp; done) | (simp; omega))) | refine blk_drewN ?_ | refine blk_old ?_))); obtain ⟨hc0, hc1, hc2, hlt⟩ := row_three hk; have kr : w1.heap[w.heap.size + 1]? = some (.cells #[.int .i64 0, .int .i64 0, .slice none 0 0] 40 (0, 0)) := keep_blk (hb := hb1) (h := by first | exact kr | (repeat (first | (refine blk_new ?_; (first | rfl | (simp; done) | (simp; omega))) | refine blk_drewN ?_ | refine blk_old ?_))); obtain ⟨kr0, kr1, kr2, kf0, kf1, kf2, krl⟩ := cells_three kr (Below.refl _ _)))
        refine bodyPost_ret (v := .tuple #[.agg #[.int .i64 0, .int .i64 0, .slice none 0 0], .int .i64 2]) (by simp [results, Try.results38, go_sem, kr0, kr1, kr2]) rfl ?_
        rw [H.out.1, H.out.2.1, H.out.2.2.1, H.out.2.2.2]
        exact ⟨none, 0, rfl, OwnC.nil _ _ _ _, by repeat (first | exact Below.refl _ _ | assumption | apply bl_alloc | apply bl_drewN | apply Below.drew | (refine bl_set ?_ (by first | exact Nat.le_refl _ | (simp; done) | (simp; omega)) _) | (refine bl_trans ?_ (by assumption)))⟩
      · cases k3 : lvl y
        · skip
          have H := Lib.hid (sh_resno (sh_bad4 (i := i) (j := j) k0 k3) (by omega))
          go_enter Try.func38, Try.ntmps38
          go_wp2_with (first | (go_at_call 66; refine (implValidLand _ _ _ _ _ _ (HA.out.below (by repeat (first | exact Below.refl _ _ | assumption | apply bl_alloc | apply bl_drewN | apply Below.drew | (refine bl_set ?_ (by first | exact Nat.le_refl _ | (simp; done) | (simp; omega)) _) | (refine bl_trans ?_ (by assumption))))) hm).mono ?_; rintro e w1 ⟨rfl, hb1⟩; have hk : w1.heap[w.heap.size]? = some (.cells #[.int .i64 r, .int .i64 c, .slice A hs.length k] 40 (0, 0)) := keep_blk (hb := hb1) (h := by first | exact hk | (repeat (first | (refine blk_new ?_; (first | rfl | (simp; done) | (simp; omega))) | refine blk_drewN ?_ | refine blk_old ?_))); obtain ⟨hc0, hc1, hc2, hlt⟩ := row_three hk; have kr : w1.heap[w.heap.size + 1]? = some (.cells #[.int .i64 0, .int .i64 0, .slice none 0 0] 40 (0, 0)) := keep_blk (hb := hb1) (h := by first | exact kr | (repeat (first | (refine blk_new ?_; (first | rfl | (simp; done) | (simp; omega))) | refine blk_drewN ?_ | refine blk_old ?_))); obtain ⟨kr0, kr1, kr2, kf0, kf1, kf2, krl⟩ := cells_three kr (Below.refl _ _)) | (go_at_call 77; refine (cell_yes _ _ _ _ _ _ _ _ l0.1 l0.2.1 k1 k2).mono ?_; rintro e w1 ⟨rfl, hb1⟩; have hk : w1.heap[w.heap.size]? = some (.cells #[.int .i64 r, .int .i64 c, .slice A hs.length k] 40 (0, 0)) := keep_blk (hb := hb1) (h := by first | exact hk | (repeat (first | (refine blk_new ?_; (first | rfl | (simp; done) | (simp; omega))) | refine blk_drewN ?_ | refine blk_old ?_))); obtain ⟨hc0, hc1, hc2, hlt⟩ := row_three hk; have kr : w1.heap[w.heap.size + 1]? = some (.cells #[.int .i64 0, .int .i64 0, .slice none 0 0] 40 (0, 0)) := keep_blk (hb := hb1) (h := by first | exact kr | (repeat (first | (refine blk_new ?_; (first | rfl | (simp; done) | (simp; omega))) | refine blk_drewN ?_ | refine blk_old ?_))); obtain ⟨kr0, kr1, kr2, kf0, kf1, kf2, krl⟩ := cells_three kr (Below.refl _ _)) | (go_at_call 78; refine (validLevel_any _ _).mono ?_; rintro e w' ⟨rfl, rfl⟩))
          refine bodyPost_ret (v := .tuple #[.agg #[.int .i64 0, .int .i64 0, .slice none 0 0], .int .i64 2]) (by simp [results, Try.results38, go_sem, kr0, kr1, kr2]) rfl ?_
          rw [H.out.1, H.out.2.1, H.out.2.2.1, H.out.2.2.2]
          exact ⟨none, 0, rfl, OwnC.nil _ _ _ _, by repeat (first | exact Below.refl _ _ | assumption | apply bl_alloc | apply bl_drewN | apply Below.drew | (refine bl_set ?_ (by first | exact Nat.le_refl _ | (simp; done) | (simp; omega)) _) | (refine bl_trans ?_ (by assumption)))⟩
        · have H := Lib.hid (sh_resyes (sh_ok k0 k1 k2 k3))
          have b1 := inR_of k1
          have b2 := inR_of k2
          have b3 := cell_bd b1 b2 l0.2.2.1
          have b4 : (i * c + j).toNat < hs.length := by omega
          have h144 := l0.2.2.2.2.1
          have L0 := Lib.hid l0
          clear l0
          go_enter Try.func38, Try.ntmps38
          go_wp2_with (first | (go_at_call 66; refine (implValidLand _ _ _ _ _ _ (HA.out.below (by repeat (first | exact Below.refl _ _ | assumption | apply bl_alloc | apply bl_drewN | apply Below.drew | (refine bl_set ?_ (by first | exact Nat.le_refl _ | (simp; done) | (simp; omega)) _) | (refine bl_trans ?_ (by assumption))))) hm).mono ?_; rintro e w1 ⟨rfl, hb1⟩; have hk : w1.heap[w.heap.size]? = some (.cells #[.int .i64 r, .int .i64 c, .slice A hs.length k] 40 (0, 0)) := keep_blk (hb := hb1) (h := by first | exact hk | (repeat (first | (refine blk_new ?_; (first | rfl | (simp; done) | (simp; omega))) | refine blk_drewN ?_ | refine blk_old ?_))); obtain ⟨hc0, hc1, hc2, hlt⟩ := row_three hk; have kr : w1.heap[w.heap.size + 1]? = some (.cells #[.int .i64 0, .int .i64 0, .slice none 0 0] 40 (0, 0)) := keep_blk (hb := hb1) (h := by first | exact kr | (repeat (first | (refine blk_new ?_; (first | rfl | (simp; done) | (simp; omega))) | refine blk_drewN ?_ | refine blk_old ?_))); obtain ⟨kr0, kr1, kr2, kf0, kf1, kf2, krl⟩ := cells_three kr (Below.refl _ _)) | (go_at_call 77; refine (cell_yes _ _ _ _ _ _ _ _ L0.out.1 L0.out.2.1 k1 k2).mono ?_; rintro e w1 ⟨rfl, hb1⟩; have hk : w1.heap[w.heap.size]? = some (.cells #[.int .i64 r, .int .i64 c, .slice A hs.length k] 40 (0, 0)) := keep_blk (hb := hb1) (h := by first | exact hk | (repeat (first | (refine blk_new ?_; (first | rfl | (simp; done) | (simp; omega))) | refine blk_drewN ?_ | refine blk_old ?_))); obtain ⟨hc0, hc1, hc2, hlt⟩ := row_three hk; have kr : w1.heap[w.heap.size + 1]? = some (.cells #[.int .i64 0, .int .i64 0, .slice none 0 0] 40 (0, 0)) := keep_blk (hb := hb1) (h := by first | exact kr | (repeat (first | (refine blk_new ?_; (first | rfl | (simp; done) | (simp; omega))) | refine blk_drewN ?_ | refine blk_old ?_))); obtain ⟨kr0, kr1, kr2, kf0, kf1, kf2, krl⟩ := cells_three kr (Below.refl _ _)) | (go_at_call 78; refine (validLevel_any _ _).mono ?_; rintro e w' ⟨rfl, rfl⟩) | fail)
          refine (clone_any _ _ _ _ (HA.out.below (by repeat (first | exact Below.refl _ _ | assumption | apply bl_alloc | apply bl_drewN | apply Below.drew | (refine bl_set ?_ (by first | exact Nat.le_refl _ | (simp; done) | (simp; omega)) _) | (refine bl_trans ?_ (by assumption))))) hm (by omega)).mono ?_
          rintro e w2 ⟨A1, k4, rfl, ho, hb2⟩
          have kx := keep_blk (hb := hb2) (h := hk)
          have ky := keep_blk (hb := hb2) (h := kr)
          obtain ⟨x0, x1, x2, xl⟩ := row_three kx
          obtain ⟨y0, y1, y2, yf0, yf1, yf2, yl⟩ := cells_three ky (Below.refl _ _)
          obtain ⟨g, cur, T, rfl, g1, g2, hg, hc⟩ := ho (by rw [ints_len]; omega)
          have f1 : w2.cell? ⟨g, (i * c + j).toNat, none⟩ = some (.int .i64 (gt hs (i * c + j).toNat)) := by
            rw [cell_of_row w2 g _ cur T (0, 0) hg, hc _ (by rw [ints_len]; exact b4), ints_get hs _ b4]
          have f2 : w2.frozen? ⟨g, (i * c + j).toNat, none⟩ = false := frozen_of_row w2 g _ cur T hg
          have OW := Lib.hid (own_set (i := (i * c + j).toNat) y g1 g2 hg hc b4)
          have B2 := Lib.hid (show Below w.heap.size w w2 by repeat (first | exact Below.refl _ _ | assumption | apply bl_alloc | apply bl_drewN | apply Below.drew | (refine bl_set ?_ (by first | exact Nat.le_refl _ | (simp; done) | (simp; omega)) _) | (refine bl_trans ?_ (by assumption))))
          have glo : w1.heap.size ≤ g := g1
          clear ho hg hc hb2 kx ky g1 kr hk hc0 hc1 hc2 kr0 kr1 kr2 kf0 kf1 kf2
          have e0 : (w2.setCell ⟨g, (i * c + j).toNat, none⟩ (.int .i64 y)).cell? ⟨w.heap.size, 0, none⟩ = some (.int .i64 r) := kc_set x0 (by simp; omega)
          have e1 : (w2.setCell ⟨g, (i * c + j).toNat, none⟩ (.int .i64 y)).cell? ⟨w.heap.size, 1, none⟩ = some (.int .i64 c) := kc_set x1 (by simp; omega)
          have e2 : (w2.setCell ⟨g, (i * c + j).toNat, none⟩ (.int .i64 y)).cell? ⟨w.heap.size + 1, 0, none⟩ = some (.int .i64 0) := kc_set y0 (by simp; omega)
          have e3 : (w2.setCell ⟨g, (i * c + j).toNat, none⟩ (.int .i64 y)).cell? ⟨w.heap.size + 1, 1, none⟩ = some (.int .i64 0) := kc_set y1 (by simp; omega)
          have e4 : (w2.setCell ⟨g, (i * c + j).toNat, none⟩ (.int .i64 y)).cell? ⟨w.heap.size + 1, 2, none⟩ = some (.slice none 0 0) := kc_set y2 (by simp; omega)
          go_wp2
          refine bodyPost_ret (v := .tuple #[.agg #[.int .i64 r, .int .i64 c, .slice (some ⟨g, 0, none⟩) hs.length k4], .int .i64 0]) (by simp [results, Try.results38, go_sem, e2, e3, e4]) rfl ?_
          rw [H.out.1, H.out.2.1, H.out.2.2.1, H.out.2.2.2]
          refine ⟨some ⟨g, 0, none⟩, k4, by rw [List.length_set], ?_, ?_⟩
          · exact ((((OW.out.far (.inl (by first | exact Nat.le_refl _ | omega | (simp; done) | (simp; omega))) _).far (.inl (by first | exact Nat.le_refl _ | omega | (simp; done) | (simp; omega))) _).far (.inl (by first | exact Nat.le_refl _ | omega | (simp; done) | (simp; omega))) _).wide (by first | exact Nat.le_refl _ | omega | (simp; done) | (simp; omega)) (by first | exact Nat.le_refl _ | omega | (simp; done) | (simp; omega)))
          · exact (((B2.out.setCell (by first | exact Nat.le_refl _ | omega | (simp; done) | (simp; omega)) _).setCell (by first | exact Nat.le_refl _ | omega | (simp; done) | (simp; omega)) _).setCell (by first | exact Nat.le_refl _ | omega | (simp; done) | (simp; omega)) _).setCell (by first | exact Nat.le_refl _ | omega | (simp; done) | (simp; omega)) _
set_option maxHeartbeats 1600000 in
theorem specSetHeight (w : World) (r c : Int) (A : Option Addr) (k : Nat) (hs : List Int) (i j y : Int) (hA : RC w A (ints hs)) (hm : hs.length ≤ 1048576) : Calls Try.prog 37 #[.agg #[.int .i64 r, .int .i64 c, .slice A hs.length k], .int .i64 i, .int .i64 j, .int .i64 y] w (NewLandC (shX r c hs i j y r) (shX r c hs i j y c) (shL r c hs i j y) (shC r c hs i j y) w) := by
  have HA := Lib.hid hA
  clear hA
  cases k0 : landOk r c hs
  · skip
    have hcc := (height_bad1 (i := i) (j := j) k0).2
    have H := Lib.hid (sh_resno (sh_bad1 (i := i) (j := j) (y := y) k0) (by omega))
    go_enter Try.func37, Try.ntmps37
    go_wp2_with (first | (go_at_call 74; refine (l03Cell_any _ _ r c _ k hs i j (by simp [go_sem]) (by simp [go_sem]) (by simp [go_sem]) (HA.out.below (by repeat (first | exact Below.refl _ _ | assumption | apply bl_alloc | apply bl_drewN | apply Below.drew | (refine bl_set ?_ (by first | exact Nat.le_refl _ | (simp; done) | (simp; omega)) _) | (refine bl_trans ?_ (by assumption))))) hm).mono ?_; rintro e w' ⟨rfl, dd, rfl⟩) | (go_at_call 75; refine (l02Level_any _ _).mono ?_; rintro e w' ⟨rfl, rfl⟩))
    refine bodyPost_ret (v := .tuple #[.agg #[.int .i64 0, .int .i64 0, .slice none 0 0], .int .i64 1]) (by simp [results, Try.results37, go_sem]) rfl ?_
    rw [H.out.1, H.out.2.1, H.out.2.2.1, H.out.2.2.2]
    exact ⟨none, 0, rfl, OwnC.nil _ _ _ _, by repeat (first | exact Below.refl _ _ | assumption | apply bl_alloc | apply bl_drewN | apply Below.drew | (refine bl_set ?_ (by first | exact Nat.le_refl _ | (simp; done) | (simp; omega)) _) | (refine bl_trans ?_ (by assumption)))⟩
  · have l0 := landOk_of k0
    cases k1 : inR i 0 (r - 1)
    · skip
      have hcc := (height_bad2 (j := j) k0 k1).2
      have H := Lib.hid (sh_resno (sh_bad2 (j := j) (y := y) k0 k1) (by omega))
      go_enter Try.func37, Try.ntmps37
      go_wp2_with (first | (go_at_call 74; refine (l03Cell_any _ _ r c _ k hs i j (by simp [go_sem]) (by simp [go_sem]) (by simp [go_sem]) (HA.out.below (by repeat (first | exact Below.refl _ _ | assumption | apply bl_alloc | apply bl_drewN | apply Below.drew | (refine bl_set ?_ (by first | exact Nat.le_refl _ | (simp; done) | (simp; omega)) _) | (refine bl_trans ?_ (by assumption))))) hm).mono ?_; rintro e w' ⟨rfl, dd, rfl⟩) | (go_at_call 75; refine (l02Level_any _ _).mono ?_; rintro e w' ⟨rfl, rfl⟩))
      refine bodyPost_ret (v := .tuple #[.agg #[.int .i64 0, .int .i64 0, .slice none 0 0], .int .i64 2]) (by simp [results, Try.results37, go_sem]) rfl ?_
      rw [H.out.1, H.out.2.1, H.out.2.2.1, H.out.2.2.2]
      exact ⟨none, 0, rfl, OwnC.nil _ _ _ _, by repeat (first | exact Below.refl _ _ | assumption | apply bl_alloc | apply bl_drewN | apply Below.drew | (refine bl_set ?_ (by first | exact Nat.le_refl _ | (simp; done) | (simp; omega)) _) | (refine bl_trans ?_ (by assumption)))⟩
    · cases k2 : inR j 0 (c - 1)
      · skip
        have hcc := (height_bad3 (i := i) k0 k2).2
        have H := Lib.hid (sh_resno (sh_bad3 (i := i) (y := y) k0 k2) (by omega))
        go_enter Try.func37, Try.ntmps37
        go_wp2_with (first | (go_at_call 74; refine (l03Cell_any _ _ r c _ k hs i j (by simp [go_sem]) (by simp [go_sem]) (by simp [go_sem]) (HA.out.below (by repeat (first | exact Below.refl _ _ | assumption | apply bl_alloc | apply bl_drewN | apply Below.drew | (refine bl_set ?_ (by first | exact Nat.le_refl _ | (simp; done) | (simp; omega)) _) | (refine bl_trans ?_ (by assumption))))) hm).mono ?_; rintro e w' ⟨rfl, dd, rfl⟩) | (go_at_call 75; refine (l02Level_any _ _).mono ?_; rintro e w' ⟨rfl, rfl⟩))
        refine bodyPost_ret (v := .tuple #[.agg #[.int .i64 0, .int .i64 0, .slice none 0 0], .int .i64 2]) (by simp [results, Try.results37, go_sem]) rfl ?_
        rw [H.out.1, H.out.2.1, H.out.2.2.1, H.out.2.2.2]
        exact ⟨none, 0, rfl, OwnC.nil _ _ _ _, by repeat (first | exact Below.refl _ _ | assumption | apply bl_alloc | apply bl_drewN | apply Below.drew | (refine bl_set ?_ (by first | exact Nat.le_refl _ | (simp; done) | (simp; omega)) _) | (refine bl_trans ?_ (by assumption)))⟩
      · have hcc := (height_ok k0 k1 k2).2
        cases k3 : lvl y
        · have H := Lib.hid (sh_resno (sh_bad4 (i := i) (j := j) k0 k3) (by omega))
          go_enter Try.func37, Try.ntmps37
          go_wp2_with (first | (go_at_call 74; refine (l03Cell_any _ _ r c _ k hs i j (by simp [go_sem]) (by simp [go_sem]) (by simp [go_sem]) (HA.out.below (by repeat (first | exact Below.refl _ _ | assumption | apply bl_alloc | apply bl_drewN | apply Below.drew | (refine bl_set ?_ (by first | exact Nat.le_refl _ | (simp; done) | (simp; omega)) _) | (refine bl_trans ?_ (by assumption))))) hm).mono ?_; rintro e w' ⟨rfl, dd, rfl⟩) | (go_at_call 75; refine (l02Level_any _ _).mono ?_; rintro e w' ⟨rfl, rfl⟩))
          refine bodyPost_ret (v := .tuple #[.agg #[.int .i64 0, .int .i64 0, .slice none 0 0], .int .i64 2]) (by simp [results, Try.results37, go_sem]) rfl ?_
          rw [H.out.1, H.out.2.1, H.out.2.2.1, H.out.2.2.2]
          exact ⟨none, 0, rfl, OwnC.nil _ _ _ _, by repeat (first | exact Below.refl _ _ | assumption | apply bl_alloc | apply bl_drewN | apply Below.drew | (refine bl_set ?_ (by first | exact Nat.le_refl _ | (simp; done) | (simp; omega)) _) | (refine bl_trans ?_ (by assumption)))⟩
        · have H := Lib.hid (sh_resyes (sh_ok k0 k1 k2 k3))
          have b1 := inR_of k1
          have b2 := inR_of k2
          have b3 := cell_bd b1 b2 l0.2.2.1
          have b4 : (i * c + j).toNat < hs.length := by omega
          have b5 : 0 ≤ i * c := Int.mul_nonneg b1.1 (by omega)
          have h144 := l0.2.2.2.2.1
          have l1 := l0.1
          have l2 := l0.2.1
          have hn1 := l0.2.2.2.1
          clear l0
          go_enter Try.func37, Try.ntmps37
          go_wp2_with (first | (go_at_call 74; refine (l03Cell_any _ _ r c _ k hs i j (by simp [go_sem]) (by simp [go_sem]) (by simp [go_sem]) (HA.out.below (by repeat (first | exact Below.refl _ _ | assumption | apply bl_alloc | apply bl_drewN | apply Below.drew | (refine bl_set ?_ (by first | exact Nat.le_refl _ | (simp; done) | (simp; omega)) _) | (refine bl_trans ?_ (by assumption))))) hm).mono ?_; rintro e w' ⟨rfl, dd, rfl⟩) | (go_at_call 75; refine (l02Level_any _ _).mono ?_; rintro e w' ⟨rfl, rfl⟩) | fail)
          refine (l03Own_any _ w.heap.size r c _ k hs (by simp [go_sem]) (by simp [go_sem]) (by simp [go_sem]) (by simp; omega) (HA.out.below (by repeat (first | exact Below.refl _ _ | assumption | apply bl_alloc | apply bl_drewN | apply Below.drew | (refine bl_set ?_ (by first | exact Nat.le_refl _ | (simp; done) | (simp; omega)) _) | (refine bl_trans ?_ (by assumption))))) hm hn1).mono ?_
          rintro e w2 ⟨A1, k4, rfl, ho, hb2⟩
          have kx : w2.heap[w.heap.size]? = some (.cells #[.int .i64 r, .int .i64 c, .slice A hs.length k] 40 (0, 0)) := keep_blk (hb := hb2) (h := by repeat (first | (refine blk_new ?_; (first | rfl | (simp; done) | (simp; omega))) | refine blk_drewN ?_ | refine blk_old ?_))
          have ky : w2.heap[w.heap.size + 1]? = some (.cells #[.int .i64 0, .int .i64 0, .slice none 0 0] 40 (0, 0)) := keep_blk (hb := hb2) (h := by repeat (first | (refine blk_new ?_; (first | rfl | (simp; done) | (simp; omega))) | refine blk_drewN ?_ | refine blk_old ?_))
          obtain ⟨x0, x1, x2, xl⟩ := row_three kx
          obtain ⟨y0, y1, y2, yf0, yf1, yf2, yl⟩ := cells_three ky (Below.refl _ _)
          obtain ⟨g, cur, T, rfl, g1, g2, hg, hc⟩ := ho (by rw [ints_len]; omega)
          have f1 : w2.cell? ⟨g, (i * c + j).toNat, none⟩ = some (.int .i64 (gt hs (i * c + j).toNat)) := by
            rw [cell_of_row w2 g _ cur T (0, 0) hg, hc _ (by rw [ints_len]; exact b4), ints_get hs _ b4]
          have f2 : w2.frozen? ⟨g, (i * c + j).toNat, none⟩ = false := frozen_of_row w2 g _ cur T hg
          have OW := Lib.hid (own_set (i := (i * c + j).toNat) y g1 g2 hg hc b4)
          have B2 := Lib.hid (show Below w.heap.size w w2 by repeat (first | exact Below.refl _ _ | assumption | apply bl_alloc | apply bl_drewN | apply Below.drew | (refine bl_set ?_ (by first | exact Nat.le_refl _ | (simp; done) | (simp; omega)) _) | (refine bl_trans ?_ (by assumption))))
          have glo : w.heap.size + 2 ≤ g := by simpa using g1
          clear ho hg hc hb2 kx ky g1
          have gne : ¬ g = w2.heap.size := by omega
          have e2 : (w2.setCell ⟨g, (i * c + j).toNat, none⟩ (.int .i64 y)).cell? ⟨w.heap.size + 1, 0, none⟩ = some (.int .i64 0) := kc_set y0 (by simp; omega)
          have e3 : (w2.setCell ⟨g, (i * c + j).toNat, none⟩ (.int .i64 y)).cell? ⟨w.heap.size + 1, 1, none⟩ = some (.int .i64 0) := kc_set y1 (by simp; omega)
          have e4 : (w2.setCell ⟨g, (i * c + j).toNat, none⟩ (.int .i64 y)).cell? ⟨w.heap.size + 1, 2, none⟩ = some (.slice none 0 0) := kc_set y2 (by simp; omega)
          go_wp2
          refine bodyPost_ret (v := .tuple #[.agg #[.int .i64 r, .int .i64 c, .slice (some ⟨g, 0, none⟩) hs.length k4], .int .i64 0]) (by simp [results, Try.results37, go_sem, e2, e3, e4, yl]) rfl ?_
          rw [H.out.1, H.out.2.1, H.out.2.2.1, H.out.2.2.2]
          refine ⟨some ⟨g, 0, none⟩, k4, by rw [List.length_set], ?_, ?_⟩
          · exact (((((OW.out.far (.inl (by first | exact Nat.le_refl _ | omega | (simp; done) | (simp; omega))) _).far (.inl (by first | exact Nat.le_refl _ | omega | (simp; done) | (simp; omega))) _).far (.inl (by first | exact Nat.le_refl _ | omega | (simp; done) | (simp; omega))) _).alloc _).wide (by first | exact Nat.le_refl _ | omega | (simp; done) | (simp; omega)) (by first | exact Nat.le_refl _ | omega | (simp; done) | (simp; omega)))
          · exact bl_alloc ((((B2.out.setCell (by first | exact Nat.le_refl _ | omega | (simp; done) | (simp; omega)) _).setCell (by first | exact Nat.le_refl _ | omega | (simp; done) | (simp; omega)) _).setCell (by first | exact Nat.le_refl _ | omega | (simp; done) | (simp; omega)) _).setCell (by first | exact Nat.le_refl _ | omega | (simp; done) | (simp; omega)) _) _
end Go.Proofs.Ytnhdhjijdcdilaa
