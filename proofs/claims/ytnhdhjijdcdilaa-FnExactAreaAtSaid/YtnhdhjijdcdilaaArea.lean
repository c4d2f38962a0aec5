/-
  Contracts on curves, the tenth part: how fast the volume grows at a level.
-/
import Derived.Test.YtnhdhjijdcdilaaVol3
import Derived.Test.YtnhdhjijdcdilaaAreaPlain
import Derived.Test.YtnhdhjijdcdilaaFrac
import Derived.IntWalk
import Derived.Test.YtnhdhjijdcdilaaOnly
import Derived.Deep.RegionHeld3
namespace Go.Proofs.Ytnhdhjijdcdilaa
set_option linter.unusedVariables false
open Go.RowKit

theorem ar_ret {x y c x' y' c' : Int} (h : x' = x ∧ y' = y ∧ c' = c) : Ending.returned (.tuple #[.agg #[.int .i64 x, .int .i64 y], .int .i64 c]) = .returned (.tuple #[.agg #[.int .i64 x', .int .i64 y'], .int .i64 c']) := by
  obtain ⟨rfl, rfl, rfl⟩ := h
  rfl

set_option maxRecDepth 100000 in
set_option maxHeartbeats 1600000 in
theorem implArea (w : World) (A A' : Option Addr) (k k' : Nat) (ls vs : List Int) (y : Int) (hA : RC w A (ints ls)) (hA' : RC w A' (ints vs)) (hm : ls.length ≤ 1048576) (hm' : vs.length ≤ 1048576) : Calls Try.prog 47 #[.agg #[.slice A ls.length k, .slice A' vs.length k'], .int .i64 y] w fun e w' => e = .returned (.tuple #[.agg #[.int .i64 (arX ls vs y), .int .i64 (arY ls vs y)], .int .i64 (atC ls vs y)]) ∧ Below w.heap.size w w' := by
  have HA := Lib.hid hA
  have HB := Lib.hid hA'
  clear hA hA'
  cases k0 : curveOk ls vs
  · skip
    have H := Lib.hid (ar_bad1 (y := y) k0)
    go_enter Try.func47, Try.ntmps47
    go_wp2_with ((go_at_call 82; refine (implValidCurve _ _ _ _ _ ls vs (HA.out.below (by repeat (first | exact Below.refl _ _ | assumption | apply bl_alloc | apply bl_drewN | apply Below.drew | (refine bl_set ?_ (by first | exact Nat.le_refl _ | (simp; done) | (simp; omega)) _) | (refine bl_trans ?_ (by assumption))))) (HB.out.below (by repeat (first | exact Below.refl _ _ | assumption | apply bl_alloc | apply bl_drewN | apply Below.drew | (refine bl_set ?_ (by first | exact Nat.le_refl _ | (simp; done) | (simp; omega)) _) | (refine bl_trans ?_ (by assumption))))) hm hm').mono ?_; rintro e w1 ⟨rfl, hb1⟩; have kx : w1.heap[w.heap.size]? = some (.cells #[.slice A ls.length k, .slice A' vs.length k'] 33 (0, 0)) := keep_blk (hb := hb1) (h := by first | exact kx | (repeat (first | (refine blk_new ?_; (first | rfl | (simp; done) | (simp; omega))) | refine blk_drewN ?_ | refine blk_old ?_))); obtain ⟨x0, x1, xl⟩ := row_two kx; have kr : w1.heap[w.heap.size + 1]? = some (.cells #[.int .i64 0, .int .i64 0] 59 (0, 0)) := keep_blk (hb := hb1) (h := by first | exact kr | (repeat (first | (refine blk_new ?_; (first | rfl | (simp; done) | (simp; omega))) | refine blk_drewN ?_ | refine blk_old ?_))); obtain ⟨y0, y1, z0, z1, yl⟩ := cells_two kr (Below.refl _ _)))
    exact bodyPost_ret (v := .tuple #[.agg #[.int .i64 0, .int .i64 0], .int .i64 1]) (by simp [results, Try.results47, go_sem, y0, y1]) rfl ⟨ar_ret H.out, by repeat (first | exact Below.refl _ _ | assumption | apply bl_alloc | apply bl_drewN | apply Below.drew | (refine bl_set ?_ (by first | exact Nat.le_refl _ | (simp; done) | (simp; omega)) _) | (refine bl_trans ?_ (by assumption)))⟩
  · have c0 := curveOk_of k0
    have n2 := c0.1
    have n12 := c0.2.1
    have ylast := (c0.2.2.2.1 (ls.length - 1) (by omega)).2
    clear c0
    cases k1 : onB ls y
    · skip
      have H := Lib.hid (ar_bad2 k0 k1)
      go_enter Try.func47, Try.ntmps47
      go_wp2_with (first | (go_at_call 82; refine (implValidCurve _ _ _ _ _ ls vs (HA.out.below (by repeat (first | exact Below.refl _ _ | assumption | apply bl_alloc | apply bl_drewN | apply Below.drew | (refine bl_set ?_ (by first | exact Nat.le_refl _ | (simp; done) | (simp; omega)) _) | (refine bl_trans ?_ (by assumption))))) (HB.out.below (by repeat (first | exact Below.refl _ _ | assumption | apply bl_alloc | apply bl_drewN | apply Below.drew | (refine bl_set ?_ (by first | exact Nat.le_refl _ | (simp; done) | (simp; omega)) _) | (refine bl_trans ?_ (by assumption))))) hm hm').mono ?_; rintro e w1 ⟨rfl, hb1⟩; have kx : w1.heap[w.heap.size]? = some (.cells #[.slice A ls.length k, .slice A' vs.length k'] 33 (0, 0)) := keep_blk (hb := hb1) (h := by first | exact kx | (repeat (first | (refine blk_new ?_; (first | rfl | (simp; done) | (simp; omega))) | refine blk_drewN ?_ | refine blk_old ?_))); obtain ⟨x0, x1, xl⟩ := row_two kx; have kr : w1.heap[w.heap.size + 1]? = some (.cells #[.int .i64 0, .int .i64 0] 59 (0, 0)) := keep_blk (hb := hb1) (h := by first | exact kr | (repeat (first | (refine blk_new ?_; (first | rfl | (simp; done) | (simp; omega))) | refine blk_drewN ?_ | refine blk_old ?_))); obtain ⟨y0, y1, z0, z1, yl⟩ := cells_two kr (Below.refl _ _)) | (go_at_call 86; refine (isOn_any _ _ _ _ _ ls vs _ (HA.out.below (by repeat (first | exact Below.refl _ _ | assumption | apply bl_alloc | apply bl_drewN | apply Below.drew | (refine bl_set ?_ (by first | exact Nat.le_refl _ | (simp; done) | (simp; omega)) _) | (refine bl_trans ?_ (by assumption))))) (HB.out.below (by repeat (first | exact Below.refl _ _ | assumption | apply bl_alloc | apply bl_drewN | apply Below.drew | (refine bl_set ?_ (by first | exact Nat.le_refl _ | (simp; done) | (simp; omega)) _) | (refine bl_trans ?_ (by assumption))))) n2 n12).mono ?_; rintro e w1 ⟨rfl, hb1⟩; have kx : w1.heap[w.heap.size]? = some (.cells #[.slice A ls.length k, .slice A' vs.length k'] 33 (0, 0)) := keep_blk (hb := hb1) (h := by first | exact kx | (repeat (first | (refine blk_new ?_; (first | rfl | (simp; done) | (simp; omega))) | refine blk_drewN ?_ | refine blk_old ?_))); obtain ⟨x0, x1, xl⟩ := row_two kx; have kr : w1.heap[w.heap.size + 1]? = some (.cells #[.int .i64 0, .int .i64 0] 59 (0, 0)) := keep_blk (hb := hb1) (h := by first | exact kr | (repeat (first | (refine blk_new ?_; (first | rfl | (simp; done) | (simp; omega))) | refine blk_drewN ?_ | refine blk_old ?_))); obtain ⟨y0, y1, z0, z1, yl⟩ := cells_two kr (Below.refl _ _)))
      exact bodyPost_ret (v := .tuple #[.agg #[.int .i64 0, .int .i64 0], .int .i64 2]) (by simp [results, Try.results47, go_sem, y0, y1]) rfl ⟨ar_ret H.out, by repeat (first | exact Below.refl _ _ | assumption | apply bl_alloc | apply bl_drewN | apply Below.drew | (refine bl_set ?_ (by first | exact Nat.le_refl _ | (simp; done) | (simp; omega)) _) | (refine bl_trans ?_ (by assumption)))⟩
    · have H := Lib.hid (ar_ok k0 k1)
      have i1 := inR_of k1
      have c0 := curveOk_of k0
      obtain ⟨f0, f1, f2, f3, f4, f5, f6, f7⟩ := vol_facts k0 i1.1 (by omega)
      have hl := f0.last
      have hlen : vs.length ≤ ls.length := by have := c0.2.2.1; omega
      have hlen' : ls.length ≤ vs.length := by have := c0.2.2.1; omega
      have F0 := Lib.hid f0
      clear c0 f0 f1 f3 f4 f6 f7
      have hU : gt vs (knotOf ls y + 1) - gt vs (knotOf ls y) = upOf ls vs y := rfl
      have hW : gt ls (knotOf ls y + 1) - gt ls (knotOf ls y) = ((wideOf ls y : Nat) : Int) := by unfold wideOf; omega
      generalize upOf ls vs y = U at *
      generalize wideOf ls y = d at *
      generalize knotOf ls y = q at *
      have hw1 : IntKind.i64.wrap (gt vs (q + 1) - gt vs q) = U := (IntWalk.i64_in _ (by omega)).trans hU
      have hw2 : IntKind.i64.wrap (gt ls (q + 1) - gt ls q) = (d : Int) := (IntWalk.i64_in _ (by omega)).trans hW
      have hw3 : IntKind.i64.wrap ((q : Int) + 1) = (q : Int) + 1 := IntWalk.i64_in _ (by omega)
      have hU1 : -9007199254740992 ≤ U := by omega
      have hU2 : U ≤ 9007199254740992 := by omega
      have hd1 : 1 ≤ d := by omega
      have hd2 : d ≤ 9007199254740992 := by omega
      clear hU hW
      have hw4 : ((q : Int) + 1).toNat = q + 1 := by omega
      have hw5 : (0 : Int) ≤ (q : Int) := by omega
      have hw6 : (0 : Int) ≤ (q : Int) + 1 := by omega
      have hw7 : (q : Int) < (ls.length : Int) := by omega
      have hw8 : (q : Int) + 1 < (ls.length : Int) := by omega
      have hw9 : (q : Int) < (vs.length : Int) := by omega
      have hwa : (q : Int) + 1 < (vs.length : Int) := by omega
      obtain ⟨b, off, rfl, hbl, hcell⟩ := HA.out (by rw [ints_len]; omega)
      obtain ⟨b', off', rfl, hbl', hcell'⟩ := HB.out (by rw [ints_len]; omega)
      go_enter Try.func47, Try.ntmps47
      go_wp2_with (first | (go_at_call 82; refine (implValidCurve _ _ _ _ _ ls vs (HA.out.below (by repeat (first | exact Below.refl _ _ | assumption | apply bl_alloc | apply bl_drewN | apply Below.drew | (refine bl_set ?_ (by first | exact Nat.le_refl _ | (simp; done) | (simp; omega)) _) | (refine bl_trans ?_ (by assumption))))) (HB.out.below (by repeat (first | exact Below.refl _ _ | assumption | apply bl_alloc | apply bl_drewN | apply Below.drew | (refine bl_set ?_ (by first | exact Nat.le_refl _ | (simp; done) | (simp; omega)) _) | (refine bl_trans ?_ (by assumption))))) hm hm').mono ?_; rintro e w1 ⟨rfl, hb1⟩; have kx : w1.heap[w.heap.size]? = some (.cells #[.slice (some ⟨b, off, none⟩) ls.length k, .slice (some ⟨b', off', none⟩) vs.length k'] 33 (0, 0)) := keep_blk (hb := hb1) (h := by first | exact kx | (repeat (first | (refine blk_new ?_; (first | rfl | (simp; done) | (simp; omega))) | refine blk_drewN ?_ | refine blk_old ?_))); obtain ⟨x0, x1, xl⟩ := row_two kx; have kr : w1.heap[w.heap.size + 1]? = some (.cells #[.int .i64 0, .int .i64 0] 59 (0, 0)) := keep_blk (hb := hb1) (h := by first | exact kr | (repeat (first | (refine blk_new ?_; (first | rfl | (simp; done) | (simp; omega))) | refine blk_drewN ?_ | refine blk_old ?_))); obtain ⟨y0, y1, z0, z1, yl⟩ := cells_two kr (Below.refl _ _)) | (go_at_call 86; refine (isOn_any _ _ _ _ _ ls vs _ (HA.out.below (by repeat (first | exact Below.refl _ _ | assumption | apply bl_alloc | apply bl_drewN | apply Below.drew | (refine bl_set ?_ (by first | exact Nat.le_refl _ | (simp; done) | (simp; omega)) _) | (refine bl_trans ?_ (by assumption))))) (HB.out.below (by repeat (first | exact Below.refl _ _ | assumption | apply bl_alloc | apply bl_drewN | apply Below.drew | (refine bl_set ?_ (by first | exact Nat.le_refl _ | (simp; done) | (simp; omega)) _) | (refine bl_trans ?_ (by assumption))))) n2 n12).mono ?_; rintro e w1 ⟨rfl, hb1⟩; have kx : w1.heap[w.heap.size]? = some (.cells #[.slice (some ⟨b, off, none⟩) ls.length k, .slice (some ⟨b', off', none⟩) vs.length k'] 33 (0, 0)) := keep_blk (hb := hb1) (h := by first | exact kx | (repeat (first | (refine blk_new ?_; (first | rfl | (simp; done) | (simp; omega))) | refine blk_drewN ?_ | refine blk_old ?_))); obtain ⟨x0, x1, xl⟩ := row_two kx; have kr : w1.heap[w.heap.size + 1]? = some (.cells #[.int .i64 0, .int .i64 0] 59 (0, 0)) := keep_blk (hb := hb1) (h := by first | exact kr | (repeat (first | (refine blk_new ?_; (first | rfl | (simp; done) | (simp; omega))) | refine blk_drewN ?_ | refine blk_old ?_))); obtain ⟨y0, y1, z0, z1, yl⟩ := cells_two kr (Below.refl _ _)) | (go_at_call 87; refine (part_any _ _ _ _ _ ls vs y q (HA.out.below (by repeat (first | exact Below.refl _ _ | assumption | apply bl_alloc | apply bl_drewN | apply Below.drew | (refine bl_set ?_ (by first | exact Nat.le_refl _ | (simp; done) | (simp; omega)) _) | (refine bl_trans ?_ (by assumption))))) (HB.out.below (by repeat (first | exact Below.refl _ _ | assumption | apply bl_alloc | apply bl_drewN | apply Below.drew | (refine bl_set ?_ (by first | exact Nat.le_refl _ | (simp; done) | (simp; omega)) _) | (refine bl_trans ?_ (by assumption))))) F0.out n12).mono ?_; rintro e w1 ⟨rfl, hb1⟩; have kx : w1.heap[w.heap.size]? = some (.cells #[.slice (some ⟨b, off, none⟩) ls.length k, .slice (some ⟨b', off', none⟩) vs.length k'] 33 (0, 0)) := keep_blk (hb := hb1) (h := by first | exact kx | (repeat (first | (refine blk_new ?_; (first | rfl | (simp; done) | (simp; omega))) | refine blk_drewN ?_ | refine blk_old ?_))); obtain ⟨x0, x1, xl⟩ := row_two kx; have kr : w1.heap[w.heap.size + 1]? = some (.cells #[.int .i64 0, .int .i64 0] 59 (0, 0)) := keep_blk (hb := hb1) (h := by first | exact kr | (repeat (first | (refine blk_new ?_; (first | rfl | (simp; done) | (simp; omega))) | refine blk_drewN ?_ | refine blk_old ?_))); obtain ⟨y0, y1, z0, z1, yl⟩ := cells_two kr (Below.refl _ _); have g1 := ((show Below w.heap.size w w1 by repeat (first | exact Below.refl _ _ | assumption | apply bl_alloc | apply bl_drewN | apply Below.drew | (refine bl_set ?_ (by first | exact Nat.le_refl _ | (simp; done) | (simp; omega)) _) | (refine bl_trans ?_ (by assumption)))).cell (p := ⟨b, off + q, none⟩) hbl).trans (hcell q (by rw [ints_len]; omega)); have g2 := ((show Below w.heap.size w w1 by repeat (first | exact Below.refl _ _ | assumption | apply bl_alloc | apply bl_drewN | apply Below.drew | (refine bl_set ?_ (by first | exact Nat.le_refl _ | (simp; done) | (simp; omega)) _) | (refine bl_trans ?_ (by assumption)))).cell (p := ⟨b, off + (q + 1), none⟩) hbl).trans (hcell (q + 1) (by rw [ints_len]; omega)); have g3 := ((show Below w.heap.size w w1 by repeat (first | exact Below.refl _ _ | assumption | apply bl_alloc | apply bl_drewN | apply Below.drew | (refine bl_set ?_ (by first | exact Nat.le_refl _ | (simp; done) | (simp; omega)) _) | (refine bl_trans ?_ (by assumption)))).cell (p := ⟨b', off' + q, none⟩) hbl').trans (hcell' q (by rw [ints_len]; omega)); have g4 := ((show Below w.heap.size w w1 by repeat (first | exact Below.refl _ _ | assumption | apply bl_alloc | apply bl_drewN | apply Below.drew | (refine bl_set ?_ (by first | exact Nat.le_refl _ | (simp; done) | (simp; omega)) _) | (refine bl_trans ?_ (by assumption)))).cell (p := ⟨b', off' + (q + 1), none⟩) hbl').trans (hcell' (q + 1) (by rw [ints_len]; omega)); rw [ints_get ls q (by omega)] at g1; rw [ints_get ls (q + 1) (by omega)] at g2; rw [ints_get vs q (by omega)] at g3; rw [ints_get vs (q + 1) (by omega)] at g4; clear hcell hcell'))
      go_region_held3 (fun w' => w'.cell? ⟨w.heap.size, 0, none⟩ = some (.slice (some ⟨b, off, none⟩) ls.length k) ∧ w'.cell? ⟨w.heap.size, 1, none⟩ = some (.slice (some ⟨b', off', none⟩) vs.length k') ∧ w'.cell? ⟨b, off + q, none⟩ = some (.int .i64 (gt ls q)) ∧ w'.cell? ⟨b, off + (q + 1), none⟩ = some (.int .i64 (gt ls (q + 1))) ∧ w'.cell? ⟨b', off' + q, none⟩ = some (.int .i64 (gt vs q)) ∧ w'.cell? ⟨b', off' + (q + 1), none⟩ = some (.int .i64 (gt vs (q + 1)))) (((try dsimp only); refine ⟨?_, ?_, ?_, ?_, ?_, ?_⟩ <;> (repeat (first | with_reducible assumption | with_reducible refine kc_drew ?_ | with_reducible refine kc_drewN ?_ | with_reducible refine kc_alloc ?_ | with_reducible refine kc_set ?_ (by first | omega | (simp; done) | (simp; omega)))))) (first | (go_at_call 88; with_reducible refine (fraction_any U d hU1 hU2 hd1 hd2 _).mono ?_; rintro e w2 ⟨rfl, hb2⟩; have B1x : Below w.heap.size w w1 := (by repeat (first | exact Below.refl _ _ | assumption | apply bl_alloc | apply bl_drewN | apply Below.drew | (refine bl_set ?_ (by first | exact Nat.le_refl _ | (simp; done) | (simp; omega)) _) | (refine bl_trans ?_ (by assumption)))); have kx : w2.heap[w.heap.size]? = some (.cells #[.slice (some ⟨b, off, none⟩) ls.length k, .slice (some ⟨b', off', none⟩) vs.length k'] 33 (0, 0)) := keep_blk (hb := hb2) (h := by first | exact blk_drew kx | (repeat (first | (refine blk_new ?_; (first | rfl | (simp; done) | (simp; omega))) | refine blk_drewN ?_ | refine blk_old ?_))); obtain ⟨x0, x1, xl⟩ := row_two kx; have kr : w2.heap[w.heap.size + 1]? = some (.cells #[.int .i64 0, .int .i64 0] 59 (0, 0)) := keep_blk (hb := hb2) (h := by first | exact blk_drew kr | (repeat (first | (refine blk_new ?_; (first | rfl | (simp; done) | (simp; omega))) | refine blk_drewN ?_ | refine blk_old ?_))); obtain ⟨y0, y1, z0, z1, yl⟩ := cells_two kr (Below.refl _ _); replace g1 := ((show Below w.heap.size w w2 by repeat (first | exact Below.refl _ _ | assumption | apply bl_alloc | apply bl_drewN | apply Below.drew | (refine bl_set ?_ (by first | exact Nat.le_refl _ | (simp; done) | (simp; omega)) _) | (refine bl_trans ?_ (by assumption)))).cell (p := ⟨b, off + q, none⟩) hbl).trans ((B1x.cell (p := ⟨b, off + q, none⟩) hbl).symm.trans g1); replace g2 := ((show Below w.heap.size w w2 by repeat (first | exact Below.refl _ _ | assumption | apply bl_alloc | apply bl_drewN | apply Below.drew | (refine bl_set ?_ (by first | exact Nat.le_refl _ | (simp; done) | (simp; omega)) _) | (refine bl_trans ?_ (by assumption)))).cell (p := ⟨b, off + (q + 1), none⟩) hbl).trans ((B1x.cell (p := ⟨b, off + (q + 1), none⟩) hbl).symm.trans g2); replace g3 := ((show Below w.heap.size w w2 by repeat (first | exact Below.refl _ _ | assumption | apply bl_alloc | apply bl_drewN | apply Below.drew | (refine bl_set ?_ (by first | exact Nat.le_refl _ | (simp; done) | (simp; omega)) _) | (refine bl_trans ?_ (by assumption)))).cell (p := ⟨b', off' + q, none⟩) hbl').trans ((B1x.cell (p := ⟨b', off' + q, none⟩) hbl').symm.trans g3); replace g4 := ((show Below w.heap.size w w2 by repeat (first | exact Below.refl _ _ | assumption | apply bl_alloc | apply bl_drewN | apply Below.drew | (refine bl_set ?_ (by first | exact Nat.le_refl _ | (simp; done) | (simp; omega)) _) | (refine bl_trans ?_ (by assumption)))).cell (p := ⟨b', off' + (q + 1), none⟩) hbl').trans ((B1x.cell (p := ⟨b', off' + (q + 1), none⟩) hbl').symm.trans g4)))
      go_wp2
      refine bodyPost_ret (v := .tuple #[.agg #[.int .i64 (U.tdiv ((gcdN (absN U) d : Nat) : Int)), .int .i64 ((d : Int) / ((gcdN (absN U) d : Nat) : Int))], .int .i64 0]) (by simp [results, Try.results47, go_sem, y0, y1]) rfl ?_
      exact ⟨ar_ret H.out, by repeat (first | exact Below.refl _ _ | assumption | apply bl_alloc | apply bl_drewN | apply Below.drew | (refine bl_set ?_ (by first | exact Nat.le_refl _ | (simp; done) | (simp; omega)) _) | (refine bl_trans ?_ (by assumption)))⟩
set_option maxRecDepth 100000 in
set_option maxHeartbeats 1600000 in
theorem specArea (w : World) (A A' : Option Addr) (k k' : Nat) (ls vs : List Int) (y : Int) (hA : RC w A (ints ls)) (hA' : RC w A' (ints vs)) (hm : ls.length ≤ 1048576) (hm' : vs.length ≤ 1048576) : Calls Try.prog 46 #[.agg #[.slice A ls.length k, .slice A' vs.length k'], .int .i64 y] w fun e w' => e = .returned (.tuple #[.agg #[.int .i64 (arX ls vs y), .int .i64 (arY ls vs y)], .int .i64 (atC ls vs y)]) ∧ Below w.heap.size w w' := by
  have HA := Lib.hid hA
  have HB := Lib.hid hA'
  clear hA hA'
  cases k0 : curveOk ls vs
  · skip
    have H := Lib.hid (ar_bad1 (y := y) k0)
    have hcc : atC ls vs y = 1 := H.out.2.2
    go_enter Try.func46, Try.ntmps46
    go_wp2_with ((go_at_call_of 83 (Value.int .i64 y); refine (l05Code_any _ w.heap.size _ _ k k' ls vs y (by first | exact x0 | (simp [go_sem])) (by first | exact x1 | (simp [go_sem])) (by first | exact xl | (simp; done) | (simp; omega)) (HA.out.below (by repeat (first | exact Below.refl _ _ | assumption | apply bl_alloc | apply bl_drewN | apply Below.drew | (refine bl_set ?_ (by first | exact Nat.le_refl _ | (simp; done) | (simp; omega)) _) | (refine bl_trans ?_ (by assumption))))) (HB.out.below (by repeat (first | exact Below.refl _ _ | assumption | apply bl_alloc | apply bl_drewN | apply Below.drew | (refine bl_set ?_ (by first | exact Nat.le_refl _ | (simp; done) | (simp; omega)) _) | (refine bl_trans ?_ (by assumption))))) hm hm').mono ?_; rintro e w1 ⟨rfl, hb1⟩; have kx : w1.heap[w.heap.size]? = some (.cells #[.slice A ls.length k, .slice A' vs.length k'] 33 (0, 0)) := keep_blk (hb := hb1) (h := by first | exact kx | (repeat (first | (refine blk_new ?_; (first | rfl | (simp; done) | (simp; omega))) | refine blk_drewN ?_ | refine blk_old ?_))); obtain ⟨x0, x1, xl⟩ := row_two kx; have kr : w1.heap[w.heap.size + 1]? = some (.cells #[.int .i64 0, .int .i64 0] 59 (0, 0)) := keep_blk (hb := hb1) (h := by first | exact kr | (repeat (first | (refine blk_new ?_; (first | rfl | (simp; done) | (simp; omega))) | refine blk_drewN ?_ | refine blk_old ?_))); obtain ⟨y0, y1, z0, z1, yl⟩ := cells_two kr (Below.refl _ _)))
    refine bodyPost_ret (v := .tuple #[.agg #[.int .i64 0, .int .i64 0], .int .i64 1]) (by simp [results, Try.results46, go_sem, y0, y1]) rfl ?_
    exact ⟨ar_ret H.out, by repeat (first | exact Below.refl _ _ | assumption | apply bl_alloc | apply bl_drewN | apply Below.drew | (refine bl_set ?_ (by first | exact Nat.le_refl _ | (simp; done) | (simp; omega)) _) | (refine bl_trans ?_ (by assumption)))⟩
  · have c0 := curveOk_of k0
    have n2 := c0.1
    have n12 := c0.2.1
    have ylast := (c0.2.2.2.1 (ls.length - 1) (by omega)).2
    clear c0
    cases k1 : onB ls y
    · skip
      have H := Lib.hid (ar_bad2 k0 k1)
      have hcc : atC ls vs y = 2 := H.out.2.2
      go_enter Try.func46, Try.ntmps46
      go_wp2_with ((go_at_call_of 83 (Value.int .i64 y); refine (l05Code_any _ w.heap.size _ _ k k' ls vs y (by first | exact x0 | (simp [go_sem])) (by first | exact x1 | (simp [go_sem])) (by first | exact xl | (simp; done) | (simp; omega)) (HA.out.below (by repeat (first | exact Below.refl _ _ | assumption | apply bl_alloc | apply bl_drewN | apply Below.drew | (refine bl_set ?_ (by first | exact Nat.le_refl _ | (simp; done) | (simp; omega)) _) | (refine bl_trans ?_ (by assumption))))) (HB.out.below (by repeat (first | exact Below.refl _ _ | assumption | apply bl_alloc | apply bl_drewN | apply Below.drew | (refine bl_set ?_ (by first | exact Nat.le_refl _ | (simp; done) | (simp; omega)) _) | (refine bl_trans ?_ (by assumption))))) hm hm').mono ?_; rintro e w1 ⟨rfl, hb1⟩; have kx : w1.heap[w.heap.size]? = some (.cells #[.slice A ls.length k, .slice A' vs.length k'] 33 (0, 0)) := keep_blk (hb := hb1) (h := by first | exact kx | (repeat (first | (refine blk_new ?_; (first | rfl | (simp; done) | (simp; omega))) | refine blk_drewN ?_ | refine blk_old ?_))); obtain ⟨x0, x1, xl⟩ := row_two kx; have kr : w1.heap[w.heap.size + 1]? = some (.cells #[.int .i64 0, .int .i64 0] 59 (0, 0)) := keep_blk (hb := hb1) (h := by first | exact kr | (repeat (first | (refine blk_new ?_; (first | rfl | (simp; done) | (simp; omega))) | refine blk_drewN ?_ | refine blk_old ?_))); obtain ⟨y0, y1, z0, z1, yl⟩ := cells_two kr (Below.refl _ _)))
      refine bodyPost_ret (v := .tuple #[.agg #[.int .i64 0, .int .i64 0], .int .i64 2]) (by simp [results, Try.results46, go_sem, y0, y1]) rfl ?_
      exact ⟨ar_ret H.out, by repeat (first | exact Below.refl _ _ | assumption | apply bl_alloc | apply bl_drewN | apply Below.drew | (refine bl_set ?_ (by first | exact Nat.le_refl _ | (simp; done) | (simp; omega)) _) | (refine bl_trans ?_ (by assumption)))⟩
    · have H := Lib.hid (ar_ok k0 k1)
      have hcc : atC ls vs y = 0 := H.out.2.2
      have i1 := inR_of k1
      have c0 := curveOk_of k0
      obtain ⟨f0, f1, f2, f3, f4, f5, f6, f7⟩ := vol_facts k0 i1.1 (by omega)
      have hl := f0.last
      have hlen : vs.length ≤ ls.length := by have := c0.2.2.1; omega
      have hlen' : ls.length ≤ vs.length := by have := c0.2.2.1; omega
      have F0 := Lib.hid f0
      clear c0 f0 f1 f3 f4 f6 f7
      have hU : gt vs (knotOf ls y + 1) - gt vs (knotOf ls y) = upOf ls vs y := rfl
      have hW : gt ls (knotOf ls y + 1) - gt ls (knotOf ls y) = ((wideOf ls y : Nat) : Int) := by unfold wideOf; omega
      generalize upOf ls vs y = U at *
      generalize wideOf ls y = d at *
      generalize knotOf ls y = q at *
      have hw1 : IntKind.i64.wrap (gt vs (q + 1) - gt vs q) = U := (IntWalk.i64_in _ (by omega)).trans hU
      have hw2 : IntKind.i64.wrap (gt ls (q + 1) - gt ls q) = (d : Int) := (IntWalk.i64_in _ (by omega)).trans hW
      have hw3 : IntKind.i64.wrap ((q : Int) + 1) = (q : Int) + 1 := IntWalk.i64_in _ (by omega)
      have hU1 : -9007199254740992 ≤ U := by omega
      have hU2 : U ≤ 9007199254740992 := by omega
      have hd1 : 1 ≤ d := by omega
      have hd2 : d ≤ 9007199254740992 := by omega
      clear hU hW
      have hw4 : ((q : Int) + 1).toNat = q + 1 := by omega
      have hw5 : (0 : Int) ≤ (q : Int) := by omega
      have hw6 : (0 : Int) ≤ (q : Int) + 1 := by omega
      have hw7 : (q : Int) < (ls.length : Int) := by omega
      have hw8 : (q : Int) + 1 < (ls.length : Int) := by omega
      have hw9 : (q : Int) < (vs.length : Int) := by omega
      have hwa : (q : Int) + 1 < (vs.length : Int) := by omega
      obtain ⟨b, off, rfl, hbl, hcell⟩ := HA.out (by rw [ints_len]; omega)
      obtain ⟨b', off', rfl, hbl', hcell'⟩ := HB.out (by rw [ints_len]; omega)
      go_enter Try.func46, Try.ntmps46
      go_wp2_with fail
      refine (l05Code_any _ w.heap.size _ _ k k' ls vs y (by simp [go_sem]) (by simp [go_sem]) (by simp; omega) (HA.out.below (by repeat (first | exact Below.refl _ _ | assumption | apply bl_alloc | apply bl_drewN | apply Below.drew | (refine bl_set ?_ (by first | exact Nat.le_refl _ | (simp; done) | (simp; omega)) _) | (refine bl_trans ?_ (by assumption))))) (HB.out.below (by repeat (first | exact Below.refl _ _ | assumption | apply bl_alloc | apply bl_drewN | apply Below.drew | (refine bl_set ?_ (by first | exact Nat.le_refl _ | (simp; done) | (simp; omega)) _) | (refine bl_trans ?_ (by assumption))))) hm hm').mono ?_
      rintro e w1 ⟨rfl, hb1⟩
      have kx : w1.heap[w.heap.size]? = some (.cells #[.slice (some ⟨b, off, none⟩) ls.length k, .slice (some ⟨b', off', none⟩) vs.length k'] 33 (0, 0)) := keep_blk (hb := hb1) (h := by first | exact kx | (repeat (first | (refine blk_new ?_; (first | rfl | (simp; done) | (simp; omega))) | refine blk_drewN ?_ | refine blk_old ?_))); obtain ⟨x0, x1, xl⟩ := row_two kx; have kr : w1.heap[w.heap.size + 1]? = some (.cells #[.int .i64 0, .int .i64 0] 59 (0, 0)) := keep_blk (hb := hb1) (h := by first | exact kr | (repeat (first | (refine blk_new ?_; (first | rfl | (simp; done) | (simp; omega))) | refine blk_drewN ?_ | refine blk_old ?_))); obtain ⟨y0, y1, z0, z1, yl⟩ := cells_two kr (Below.refl _ _)
      go_wp2_with ((go_at_call 84; refine (l05Knot_any _ w.heap.size _ k ls y q (by first | exact x0 | (simp [go_sem])) (HA.out.below (by repeat (first | exact Below.refl _ _ | assumption | apply bl_alloc | apply bl_drewN | apply Below.drew | (refine bl_set ?_ (by first | exact Nat.le_refl _ | (simp; done) | (simp; omega)) _) | (refine bl_trans ?_ (by assumption))))) F0.out n12).mono ?_; rintro e w' ⟨rfl, rfl⟩))
      have g1 := ((show Below w.heap.size w w1 by repeat (first | exact Below.refl _ _ | assumption | apply bl_alloc | apply bl_drewN | apply Below.drew | (refine bl_set ?_ (by first | exact Nat.le_refl _ | (simp; done) | (simp; omega)) _) | (refine bl_trans ?_ (by assumption)))).cell (p := ⟨b, off + q, none⟩) hbl).trans (hcell q (by rw [ints_len]; omega))
      have g2 := ((show Below w.heap.size w w1 by repeat (first | exact Below.refl _ _ | assumption | apply bl_alloc | apply bl_drewN | apply Below.drew | (refine bl_set ?_ (by first | exact Nat.le_refl _ | (simp; done) | (simp; omega)) _) | (refine bl_trans ?_ (by assumption)))).cell (p := ⟨b, off + (q + 1), none⟩) hbl).trans (hcell (q + 1) (by rw [ints_len]; omega))
      have g3 := ((show Below w.heap.size w w1 by repeat (first | exact Below.refl _ _ | assumption | apply bl_alloc | apply bl_drewN | apply Below.drew | (refine bl_set ?_ (by first | exact Nat.le_refl _ | (simp; done) | (simp; omega)) _) | (refine bl_trans ?_ (by assumption)))).cell (p := ⟨b', off' + q, none⟩) hbl').trans (hcell' q (by rw [ints_len]; omega))
      have g4 := ((show Below w.heap.size w w1 by repeat (first | exact Below.refl _ _ | assumption | apply bl_alloc | apply bl_drewN | apply Below.drew | (refine bl_set ?_ (by first | exact Nat.le_refl _ | (simp; done) | (simp; omega)) _) | (refine bl_trans ?_ (by assumption)))).cell (p := ⟨b', off' + (q + 1), none⟩) hbl').trans (hcell' (q + 1) (by rw [ints_len]; omega))
      rw [ints_get ls q (by omega)] at g1
      rw [ints_get ls (q + 1) (by omega)] at g2
      rw [ints_get vs q (by omega)] at g3
      rw [ints_get vs (q + 1) (by omega)] at g4
      clear hcell hcell'

      go_region_held3 (fun w' => w'.cell? ⟨w.heap.size, 0, none⟩ = some (.slice (some ⟨b, off, none⟩) ls.length k) ∧ w'.cell? ⟨w.heap.size, 1, none⟩ = some (.slice (some ⟨b', off', none⟩) vs.length k') ∧ w'.cell? ⟨b, off + q, none⟩ = some (.int .i64 (gt ls q)) ∧ w'.cell? ⟨b, off + (q + 1), none⟩ = some (.int .i64 (gt ls (q + 1))) ∧ w'.cell? ⟨b', off' + q, none⟩ = some (.int .i64 (gt vs q)) ∧ w'.cell? ⟨b', off' + (q + 1), none⟩ = some (.int .i64 (gt vs (q + 1)))) (((try dsimp only); refine ⟨?_, ?_, ?_, ?_, ?_, ?_⟩ <;> (repeat (first | with_reducible assumption | with_reducible refine kc_drew ?_ | with_reducible refine kc_drewN ?_ | with_reducible refine kc_alloc ?_ | with_reducible refine kc_set ?_ (by first | omega | (simp; done) | (simp; omega)))))) (first | (go_at_call 85; with_reducible refine (l02Make_any U d hU1 hU2 hd1 hd2 _).mono ?_; rintro e w2 ⟨rfl, hb2⟩; have B1x : Below w.heap.size w w1 := (by repeat (first | exact Below.refl _ _ | assumption | apply bl_alloc | apply bl_drewN | apply Below.drew | (refine bl_set ?_ (by first | exact Nat.le_refl _ | (simp; done) | (simp; omega)) _) | (refine bl_trans ?_ (by assumption)))); have kx : w2.heap[w.heap.size]? = some (.cells #[.slice (some ⟨b, off, none⟩) ls.length k, .slice (some ⟨b', off', none⟩) vs.length k'] 33 (0, 0)) := keep_blk (hb := hb2) (h := by first | exact blk_drew kx | (repeat (first | (refine blk_new ?_; (first | rfl | (simp; done) | (simp; omega))) | refine blk_drewN ?_ | refine blk_old ?_))); obtain ⟨x0, x1, xl⟩ := row_two kx; have kr : w2.heap[w.heap.size + 1]? = some (.cells #[.int .i64 0, .int .i64 0] 59 (0, 0)) := keep_blk (hb := hb2) (h := by first | exact blk_drew kr | (repeat (first | (refine blk_new ?_; (first | rfl | (simp; done) | (simp; omega))) | refine blk_drewN ?_ | refine blk_old ?_))); obtain ⟨y0, y1, z0, z1, yl⟩ := cells_two kr (Below.refl _ _); replace g1 := ((show Below w.heap.size w w2 by repeat (first | exact Below.refl _ _ | assumption | apply bl_alloc | apply bl_drewN | apply Below.drew | (refine bl_set ?_ (by first | exact Nat.le_refl _ | (simp; done) | (simp; omega)) _) | (refine bl_trans ?_ (by assumption)))).cell (p := ⟨b, off + q, none⟩) hbl).trans ((B1x.cell (p := ⟨b, off + q, none⟩) hbl).symm.trans g1); replace g2 := ((show Below w.heap.size w w2 by repeat (first | exact Below.refl _ _ | assumption | apply bl_alloc | apply bl_drewN | apply Below.drew | (refine bl_set ?_ (by first | exact Nat.le_refl _ | (simp; done) | (simp; omega)) _) | (refine bl_trans ?_ (by assumption)))).cell (p := ⟨b, off + (q + 1), none⟩) hbl).trans ((B1x.cell (p := ⟨b, off + (q + 1), none⟩) hbl).symm.trans g2); replace g3 := ((show Below w.heap.size w w2 by repeat (first | exact Below.refl _ _ | assumption | apply bl_alloc | apply bl_drewN | apply Below.drew | (refine bl_set ?_ (by first | exact Nat.le_refl _ | (simp; done) | (simp; omega)) _) | (refine bl_trans ?_ (by assumption)))).cell (p := ⟨b', off' + q, none⟩) hbl').trans ((B1x.cell (p := ⟨b', off' + q, none⟩) hbl').symm.trans g3); replace g4 := ((show Below w.heap.size w w2 by repeat (first | exact Below.refl _ _ | assumption | apply bl_alloc | apply bl_drewN | apply Below.drew | (refine bl_set ?_ (by first | exact Nat.le_refl _ | (simp; done) | (simp; omega)) _) | (refine bl_trans ?_ (by assumption)))).cell (p := ⟨b', off' + (q + 1), none⟩) hbl').trans ((B1x.cell (p := ⟨b', off' + (q + 1), none⟩) hbl').symm.trans g4)))
      go_wp2
      refine bodyPost_ret (v := .tuple #[.agg #[.int .i64 (U.tdiv ((gcdN (absN U) d : Nat) : Int)), .int .i64 ((d : Int) / ((gcdN (absN U) d : Nat) : Int))], .int .i64 0]) (by simp [results, Try.results46, go_sem, y0, y1]) rfl ?_
      exact ⟨ar_ret H.out, by repeat (first | exact Below.refl _ _ | assumption | apply bl_alloc | apply bl_drewN | apply Below.drew | (refine bl_set ?_ (by first | exact Nat.le_refl _ | (simp; done) | (simp; omega)) _) | (refine bl_trans ?_ (by assumption)))⟩
set_option maxHeartbeats 400000 in
theorem eqFraction_any (x y : Int) (w : World) : Calls Try.prog 48 #[.agg #[.int .i64 x, .int .i64 y], .agg #[.int .i64 x, .int .i64 y]] w fun e w' => e = .returned (.bool true) ∧ Below w.heap.size w w' := by
  go_enter Try.func48, Try.ntmps48
  go_wp2
  go_ret
  exact ⟨rfl, by repeat (first | exact Below.refl _ _ | assumption | apply bl_alloc | apply bl_drewN | apply Below.drew | (refine bl_set ?_ (by first | exact Nat.le_refl _ | (simp; done) | (simp; omega)) _) | (refine bl_trans ?_ (by assumption)))⟩
end Go.Proofs.Ytnhdhjijdcdilaa
