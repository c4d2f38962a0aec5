/-
  The law 'FnExactCurveOfLand' holds for every input: the curve of a land is the reference's. No condition.
  The frame follows the kit's template for such a statement; the walk is ours.
-/
import Derived.Test.YtcgnnlgakfndaaaRows
import Derived.Test.YtcgnnlgakfndaaaMarks
import Derived.Test.YtcgnnlgakfndaaaCol
import Derived.Test.YtcgnnlgakfndaaaColS
import Derived.Test.YtcgnnlgakfndaaaOpen
import Derived.Lib.SmallJoins
import Derived.Deep.RegionHeld3
namespace Go.Proofs.Ytcgnnlgakfndaaa.fnExactCurveOfLand
open Go.ChangeShapes Go.WideShapes Go.ChangeAt Go.RowKit Go.Joins
open Go.ChangeMaps (open_string shut_string)
set_option linter.unusedVariables false
set_option maxHeartbeats 4000000 in
theorem walk (r : Int) (c : Int) (Ahs : Option Addr) (hs : List Int) (chs : Nat) (a : Int) (b : Int) (s : Int) (w : World) (wr : (Lit.int .i64 r).wf = true) (wc : (Lit.int .i64 c).wf = true) (rhs : RC w Ahs (ints hs)) (mhs : hs.length ≤ 9223372036854775807) (wa : (Lit.int .i64 a).wf = true) (wb : (Lit.int .i64 b).wf = true) (ws : (Lit.int .i64 s).wf = true) :
    Calls Try.prog 4 #[.agg #[.int .i64 r, .int .i64 c, .slice Ahs (List.length hs) chs], .int .i64 a, .int .i64 b, .int .i64 s] w fun e w' => e = .returned (.bool true) ∧ Below w.heap.size w w' := by
  clear wr wc wa wb ws
  by_cases hz0 : hs.length ≤ 1048576
  rotate_left
  · go_enter Try.func4, Try.ntmps4
    go_wp2_with fail
    refine (szLand_no _ _ _ _ _ _ _ (by omega) (by omega) (by omega) mhs).mono ?_
    rintro e w1 ⟨rfl, b1⟩
    go_wp2
    go_ret
    exact ⟨rfl, by repeat (first | exact Below.refl _ _ | assumption | apply bl_alloc | apply bl_drewN | apply Below.drew | (refine bl_set ?_ (by first | exact Nat.le_refl _ | (simp; done) | (simp; omega)) _) | (refine bl_trans ?_ (by assumption)))⟩
  have hmhs : (List.length hs) ≤ 1048576 := by omega
  go_enter Try.func4, Try.ntmps4
  go_wp2_with fail
  refine (szLand_yes _ _ _ _ _ _ _ (by omega) (by omega)).mono ?_
  rintro e w1 ⟨rfl, b1⟩
  have s1 : Below w.heap.size w w1 := (by repeat (first | exact Below.refl _ _ | assumption | apply bl_alloc | apply bl_drewN | apply Below.drew | (refine bl_set ?_ (by first | exact Nat.le_refl _ | (simp; done) | (simp; omega)) _) | (refine bl_trans ?_ (by assumption))))
  have z1 := s1.size
  have t1 : Below w.heap.size w w1 := s1
  have kp : w1.heap[w.heap.size]? = some (.cells #[.int .i64 r, .int .i64 c, .slice Ahs (List.length hs) chs] 29 (0, 0)) := keep_blk (hb := b1) (h := by repeat (first | (refine blk_new ?_; (first | rfl | (simp; done) | (simp; omega))) | refine blk_drewN ?_ | refine blk_drew ?_ | refine blk_old ?_))
  have vkp := blk_lt kp
  obtain ⟨kp0, kp1, kp2, kpl⟩ := row_three kp
  go_wp2_with fail
  refine (toLand_any _ _ _ _ _ _ (rhs.below (by repeat (first | exact Below.refl _ _ | assumption | apply bl_alloc | apply bl_drewN | apply Below.drew | (refine bl_set ?_ (by first | exact Nat.le_refl _ | (simp; done) | (simp; omega)) _) | (refine bl_trans ?_ (by assumption))))) hmhs).mono ?_
  rintro e w2 ⟨X2, c2, rfl, o2, b2⟩
  have s2 : Below w1.heap.size w1 w2 := (by repeat (first | exact Below.refl _ _ | assumption | apply bl_alloc | apply bl_drewN | apply Below.drew | (refine bl_set ?_ (by first | exact Nat.le_refl _ | (simp; done) | (simp; omega)) _) | (refine bl_trans ?_ (by assumption))))
  have z2 := s2.size
  have t2 : Below w.heap.size w w2 := t1.trans (s2.mono (by omega))
  replace kp : w2.heap[w.heap.size]? = some (.cells #[.int .i64 r, .int .i64 c, .slice Ahs (List.length hs) chs] 29 (0, 0)) := keep_blk (hb := s2) (h := kp)
  clear kp0 kp1 kp2 kpl
  obtain ⟨kp0, kp1, kp2, kpl⟩ := row_three kp
  replace o2 := o2.wide (B' := w1.heap.size) (E' := w2.heap.size) (Below.size (B := w1.heap.size) (by repeat (first | exact Below.refl _ _ | assumption | apply bl_alloc | apply bl_drewN | apply Below.drew | (refine bl_set ?_ (by first | exact Nat.le_refl _ | (simp; done) | (simp; omega)) _) | (refine bl_trans ?_ (by assumption))))) (Nat.le_refl _)
  go_wp2_with fail
  refine (specCol _ r c _ _ hs a b s ((o2.below (Below.mono (B := w2.heap.size) (by repeat (first | exact Below.refl _ _ | assumption | apply bl_alloc | apply bl_drewN | apply Below.drew | (refine bl_set ?_ (by first | exact Nat.le_refl _ | (simp; done) | (simp; omega)) _) | (refine bl_trans ?_ (by assumption)))) (by omega))).rc) hmhs).mono ?_
  rintro e w3 ⟨X3, c3, Y3, d3, rfl, o3, p3, ap3, b3⟩
  have s3 : Below w2.heap.size w2 w3 := (by repeat (first | exact Below.refl _ _ | assumption | apply bl_alloc | apply bl_drewN | apply Below.drew | (refine bl_set ?_ (by first | exact Nat.le_refl _ | (simp; done) | (simp; omega)) _) | (refine bl_trans ?_ (by assumption))))
  have z3 := s3.size
  have t3 : Below w.heap.size w w3 := t2.trans (s3.mono (by omega))
  replace o2 := o2.below (s3.mono (by omega))
  replace kp : w3.heap[w.heap.size]? = some (.cells #[.int .i64 r, .int .i64 c, .slice Ahs (List.length hs) chs] 29 (0, 0)) := keep_blk (hb := s3) (h := kp)
  clear kp0 kp1 kp2 kpl
  obtain ⟨kp0, kp1, kp2, kpl⟩ := row_three kp
  replace o3 := o3.wide (B' := w2.heap.size) (E' := w3.heap.size) (Below.size (B := w2.heap.size) (by repeat (first | exact Below.refl _ _ | assumption | apply bl_alloc | apply bl_drewN | apply Below.drew | (refine bl_set ?_ (by first | exact Nat.le_refl _ | (simp; done) | (simp; omega)) _) | (refine bl_trans ?_ (by assumption))))) (Nat.le_refl _)
  replace p3 := p3.wide (B' := w2.heap.size) (E' := w3.heap.size) (Below.size (B := w2.heap.size) (by repeat (first | exact Below.refl _ _ | assumption | apply bl_alloc | apply bl_drewN | apply Below.drew | (refine bl_set ?_ (by first | exact Nat.le_refl _ | (simp; done) | (simp; omega)) _) | (refine bl_trans ?_ (by assumption))))) (Nat.le_refl _)
  clear o2
  go_wp2_with fail
  refine (toLand_any _ _ _ _ _ _ (rhs.below (by repeat (first | exact Below.refl _ _ | assumption | apply bl_alloc | apply bl_drewN | apply Below.drew | (refine bl_set ?_ (by first | exact Nat.le_refl _ | (simp; done) | (simp; omega)) _) | (refine bl_trans ?_ (by assumption))))) hmhs).mono ?_
  rintro e w4 ⟨X4, c4, rfl, o4, b4⟩
  have s4 : Below w3.heap.size w3 w4 := (by repeat (first | exact Below.refl _ _ | assumption | apply bl_alloc | apply bl_drewN | apply Below.drew | (refine bl_set ?_ (by first | exact Nat.le_refl _ | (simp; done) | (simp; omega)) _) | (refine bl_trans ?_ (by assumption))))
  have z4 := s4.size
  have t4 : Below w.heap.size w w4 := t3.trans (s4.mono (by omega))
  replace o3 := o3.below (s4.mono (by omega))
  replace p3 := p3.below (s4.mono (by omega))
  replace kp : w4.heap[w.heap.size]? = some (.cells #[.int .i64 r, .int .i64 c, .slice Ahs (List.length hs) chs] 29 (0, 0)) := keep_blk (hb := s4) (h := kp)
  clear kp0 kp1 kp2 kpl
  obtain ⟨kp0, kp1, kp2, kpl⟩ := row_three kp
  have kw : w4.heap[w3.heap.size]? = some (.cells #[.slice X3 (coL r c hs a b s).length c3, .slice Y3 (coV r c hs a b s).length d3] 32 (0, 0)) := keep_blk (hb := b4) (h := by repeat (first | (refine blk_new ?_; (first | rfl | (simp; done) | (simp; omega))) | refine blk_drewN ?_ | refine blk_drew ?_ | refine blk_old ?_))
  have vkw := blk_lt kw
  obtain ⟨kw0, kw1, kwl⟩ := row_two kw
  replace o4 := o4.wide (B' := (w3.heap.size + 1)) (E' := w4.heap.size) (by first | exact Nat.le_refl _ | (simp; done) | (simp; omega)) (Nat.le_refl _)
  go_wp2_with fail
  refine (implCol _ r c _ _ hs a b s ((o4.below (Below.mono (B := w4.heap.size) (by repeat (first | exact Below.refl _ _ | assumption | apply bl_alloc | apply bl_drewN | apply Below.drew | (refine bl_set ?_ (by first | exact Nat.le_refl _ | (simp; done) | (simp; omega)) _) | (refine bl_trans ?_ (by assumption)))) (by omega))).rc) hmhs).mono ?_
  rintro e w5 ⟨X5, c5, Y5, d5, rfl, o5, p5, ap5, b5⟩
  have s5 : Below w4.heap.size w4 w5 := (by repeat (first | exact Below.refl _ _ | assumption | apply bl_alloc | apply bl_drewN | apply Below.drew | (refine bl_set ?_ (by first | exact Nat.le_refl _ | (simp; done) | (simp; omega)) _) | (refine bl_trans ?_ (by assumption))))
  have z5 := s5.size
  have t5 : Below w.heap.size w w5 := t4.trans (s5.mono (by omega))
  replace o3 := o3.below (s5.mono (by omega))
  replace p3 := p3.below (s5.mono (by omega))
  replace o4 := o4.below (s5.mono (by omega))
  replace kp : w5.heap[w.heap.size]? = some (.cells #[.int .i64 r, .int .i64 c, .slice Ahs (List.length hs) chs] 29 (0, 0)) := keep_blk (hb := s5) (h := kp)
  clear kp0 kp1 kp2 kpl
  obtain ⟨kp0, kp1, kp2, kpl⟩ := row_three kp
  replace kw : w5.heap[w3.heap.size]? = some (.cells #[.slice X3 (coL r c hs a b s).length c3, .slice Y3 (coV r c hs a b s).length d3] 32 (0, 0)) := keep_blk (hb := s5) (h := kw)
  clear kw0 kw1 kwl
  obtain ⟨kw0, kw1, kwl⟩ := row_two kw
  have kx : w5.heap[w4.heap.size]? = some (.cells #[.int .i64 r, .int .i64 c, .slice X4 (List.length hs) c4] 35 (0, 0)) := keep_blk (hb := b5) (h := by repeat (first | (refine blk_new ?_; (first | rfl | (simp; done) | (simp; omega))) | refine blk_drewN ?_ | refine blk_drew ?_ | refine blk_old ?_))
  have vkx := blk_lt kx
  obtain ⟨kx0, kx1, kx2, kxl⟩ := row_three kx
  replace o5 := o5.wide (B' := (w4.heap.size + 1)) (E' := w5.heap.size) (by first | exact Nat.le_refl _ | (simp; done) | (simp; omega)) (Nat.le_refl _)
  replace p5 := p5.wide (B' := (w4.heap.size + 1)) (E' := w5.heap.size) (by first | exact Nat.le_refl _ | (simp; done) | (simp; omega)) (Nat.le_refl _)
  go_wp2_with fail
  refine (eqCurve_any _ _ _ _ _ _ _ _ _ _ _ ((o5.below (Below.mono (B := w5.heap.size) (by repeat (first | exact Below.refl _ _ | assumption | apply bl_alloc | apply bl_drewN | apply Below.drew | (refine bl_set ?_ (by first | exact Nat.le_refl _ | (simp; done) | (simp; omega)) _) | (refine bl_trans ?_ (by assumption)))) (by omega))).rc) ((p5.below (Below.mono (B := w5.heap.size) (by repeat (first | exact Below.refl _ _ | assumption | apply bl_alloc | apply bl_drewN | apply Below.drew | (refine bl_set ?_ (by first | exact Nat.le_refl _ | (simp; done) | (simp; omega)) _) | (refine bl_trans ?_ (by assumption)))) (by omega))).rc) ((o3.below (Below.mono (B := w5.heap.size) (by repeat (first | exact Below.refl _ _ | assumption | apply bl_alloc | apply bl_drewN | apply Below.drew | (refine bl_set ?_ (by first | exact Nat.le_refl _ | (simp; done) | (simp; omega)) _) | (refine bl_trans ?_ (by assumption)))) (by omega))).rc) ((p3.below (Below.mono (B := w5.heap.size) (by repeat (first | exact Below.refl _ _ | assumption | apply bl_alloc | apply bl_drewN | apply Below.drew | (refine bl_set ?_ (by first | exact Nat.le_refl _ | (simp; done) | (simp; omega)) _) | (refine bl_trans ?_ (by assumption)))) (by omega))).rc) (Nat.le_trans (coL_len r c a b s hs) (by decide)) (Nat.le_trans (Nat.le_trans (Nat.le_of_eq (coV_len r c a b s hs)) (coL_len r c a b s hs)) (by decide))).mono ?_
  rintro e w6 ⟨rfl, b6⟩
  have s6 : Below w5.heap.size w5 w6 := (by repeat (first | exact Below.refl _ _ | assumption | apply bl_alloc | apply bl_drewN | apply Below.drew | (refine bl_set ?_ (by first | exact Nat.le_refl _ | (simp; done) | (simp; omega)) _) | (refine bl_trans ?_ (by assumption))))
  have z6 := s6.size
  have t6 : Below w.heap.size w w6 := t5.trans (s6.mono (by omega))
  replace o3 := o3.below (s6.mono (by omega))
  replace p3 := p3.below (s6.mono (by omega))
  replace o4 := o4.below (s6.mono (by omega))
  replace o5 := o5.below (s6.mono (by omega))
  replace p5 := p5.below (s6.mono (by omega))
  replace kp : w6.heap[w.heap.size]? = some (.cells #[.int .i64 r, .int .i64 c, .slice Ahs (List.length hs) chs] 29 (0, 0)) := keep_blk (hb := s6) (h := kp)
  clear kp0 kp1 kp2 kpl
  obtain ⟨kp0, kp1, kp2, kpl⟩ := row_three kp
  replace kw : w6.heap[w3.heap.size]? = some (.cells #[.slice X3 (coL r c hs a b s).length c3, .slice Y3 (coV r c hs a b s).length d3] 32 (0, 0)) := keep_blk (hb := s6) (h := kw)
  clear kw0 kw1 kwl
  obtain ⟨kw0, kw1, kwl⟩ := row_two kw
  replace kx : w6.heap[w4.heap.size]? = some (.cells #[.int .i64 r, .int .i64 c, .slice X4 (List.length hs) c4] 35 (0, 0)) := keep_blk (hb := s6) (h := kx)
  clear kx0 kx1 kx2 kxl
  obtain ⟨kx0, kx1, kx2, kxl⟩ := row_three kx
  have kg : w6.heap[w5.heap.size]? = some (.cells #[.slice X5 (coL r c hs a b s).length c5, .slice Y5 (coV r c hs a b s).length d5] 32 (0, 0)) := keep_blk (hb := b6) (h := by repeat (first | (refine blk_new ?_; (first | rfl | (simp; done) | (simp; omega))) | refine blk_drewN ?_ | refine blk_drew ?_ | refine blk_old ?_))
  have vkg := blk_lt kg
  obtain ⟨kg0, kg1, kgl⟩ := row_two kg
  go_wp2_with fail
  go_region_held3 (fun w' => w'.cell? ⟨w4.heap.size, 0, none⟩ = some (.int .i64 r) ∧ w'.cell? ⟨w4.heap.size, 1, none⟩ = some (.int .i64 c) ∧ w'.cell? ⟨w4.heap.size, 2, none⟩ = some (.slice X4 (List.length hs) c4) ∧ w'.cell? ⟨w.heap.size, 0, none⟩ = some (.int .i64 r) ∧ w'.cell? ⟨w.heap.size, 1, none⟩ = some (.int .i64 c) ∧ w'.cell? ⟨w.heap.size, 2, none⟩ = some (.slice Ahs (List.length hs) chs)) (((try dsimp only); refine ⟨?_, ?_, ?_, ?_, ?_, ?_⟩ <;> (repeat (first | with_reducible assumption | with_reducible refine kc_drew ?_ | with_reducible refine kc_drewN ?_ | with_reducible refine kc_alloc ?_ | with_reducible refine kc_set ?_ (by first | omega | (simp; done) | (simp; omega)))))) (first | (go_at_call 13; refine (toLand_any _ _ _ _ _ _ (rhs.below (by repeat (first | exact Below.refl _ _ | assumption | apply bl_alloc | apply bl_drewN | apply Below.drew | (refine bl_set ?_ (by first | exact Nat.le_refl _ | (simp; done) | (simp; omega)) _) | (refine bl_trans ?_ (by assumption))))) hmhs).mono ?_; rintro e w7 ⟨X7, c7, rfl, o7, b7⟩; have s7 : Below w6.heap.size w6 w7 := (by repeat (first | exact Below.refl _ _ | assumption | apply bl_alloc | apply bl_drewN | apply Below.drew | (refine bl_set ?_ (by first | exact Nat.le_refl _ | (simp; done) | (simp; omega)) _) | (refine bl_trans ?_ (by assumption)))); have z7 := s7.size; have t7 : Below w.heap.size w w7 := t6.trans (s7.mono (by omega)); replace o3 := o3.below (s7.mono (by omega)); replace p3 := p3.below (s7.mono (by omega)); replace o4 := o4.below (s7.mono (by omega)); replace o5 := o5.below (s7.mono (by omega)); replace p5 := p5.below (s7.mono (by omega)); replace kp : w7.heap[w.heap.size]? = some (.cells #[.int .i64 r, .int .i64 c, .slice Ahs (List.length hs) chs] 29 (0, 0)) := keep_blk (hb := s7) (h := kp); clear kp0 kp1 kp2 kpl; obtain ⟨kp0, kp1, kp2, kpl⟩ := row_three kp; replace kw : w7.heap[w3.heap.size]? = some (.cells #[.slice X3 (coL r c hs a b s).length c3, .slice Y3 (coV r c hs a b s).length d3] 32 (0, 0)) := keep_blk (hb := s7) (h := kw); clear kw0 kw1 kwl; obtain ⟨kw0, kw1, kwl⟩ := row_two kw; replace kx : w7.heap[w4.heap.size]? = some (.cells #[.int .i64 r, .int .i64 c, .slice X4 (List.length hs) c4] 35 (0, 0)) := keep_blk (hb := s7) (h := kx); clear kx0 kx1 kx2 kxl; obtain ⟨kx0, kx1, kx2, kxl⟩ := row_three kx; replace kg : w7.heap[w5.heap.size]? = some (.cells #[.slice X5 (coL r c hs a b s).length c5, .slice Y5 (coV r c hs a b s).length d5] 32 (0, 0)) := keep_blk (hb := s7) (h := kg); clear kg0 kg1 kgl; obtain ⟨kg0, kg1, kgl⟩ := row_two kg; replace o7 := o7.wide (B' := w6.heap.size) (E' := w7.heap.size) (Below.size (B := w6.heap.size) (by repeat (first | exact Below.refl _ _ | assumption | apply bl_alloc | apply bl_drewN | apply Below.drew | (refine bl_set ?_ (by first | exact Nat.le_refl _ | (simp; done) | (simp; omega)) _) | (refine bl_trans ?_ (by assumption))))) (Nat.le_refl _)) | (go_at_call 16; refine (eqLand_any _ _ _ _ _ _ _ _ ((o4.below (Below.mono (B := w7.heap.size) (by repeat (first | exact Below.refl _ _ | assumption | apply bl_alloc | apply bl_drewN | apply Below.drew | (refine bl_set ?_ (by first | exact Nat.le_refl _ | (simp; done) | (simp; omega)) _) | (refine bl_trans ?_ (by assumption)))) (by omega))).rc) ((o7.below (Below.mono (B := w7.heap.size) (by repeat (first | exact Below.refl _ _ | assumption | apply bl_alloc | apply bl_drewN | apply Below.drew | (refine bl_set ?_ (by first | exact Nat.le_refl _ | (simp; done) | (simp; omega)) _) | (refine bl_trans ?_ (by assumption)))) (by omega))).rc) hmhs).mono ?_; rintro e w8 ⟨rfl, b8⟩; have s8 : Below w7.heap.size w7 w8 := (by repeat (first | exact Below.refl _ _ | assumption | apply bl_alloc | apply bl_drewN | apply Below.drew | (refine bl_set ?_ (by first | exact Nat.le_refl _ | (simp; done) | (simp; omega)) _) | (refine bl_trans ?_ (by assumption)))); have z8 := s8.size; have t8 : Below w.heap.size w w8 := t7.trans (s8.mono (by omega)); replace o3 := o3.below (s8.mono (by omega)); replace p3 := p3.below (s8.mono (by omega)); replace o4 := o4.below (s8.mono (by omega)); replace o5 := o5.below (s8.mono (by omega)); replace p5 := p5.below (s8.mono (by omega)); replace o7 := o7.below (s8.mono (by omega)); replace kp : w8.heap[w.heap.size]? = some (.cells #[.int .i64 r, .int .i64 c, .slice Ahs (List.length hs) chs] 29 (0, 0)) := keep_blk (hb := s8) (h := kp); clear kp0 kp1 kp2 kpl; obtain ⟨kp0, kp1, kp2, kpl⟩ := row_three kp; replace kw : w8.heap[w3.heap.size]? = some (.cells #[.slice X3 (coL r c hs a b s).length c3, .slice Y3 (coV r c hs a b s).length d3] 32 (0, 0)) := keep_blk (hb := s8) (h := kw); clear kw0 kw1 kwl; obtain ⟨kw0, kw1, kwl⟩ := row_two kw; replace kx : w8.heap[w4.heap.size]? = some (.cells #[.int .i64 r, .int .i64 c, .slice X4 (List.length hs) c4] 35 (0, 0)) := keep_blk (hb := s8) (h := kx); clear kx0 kx1 kx2 kxl; obtain ⟨kx0, kx1, kx2, kxl⟩ := row_three kx; replace kg : w8.heap[w5.heap.size]? = some (.cells #[.slice X5 (coL r c hs a b s).length c5, .slice Y5 (coV r c hs a b s).length d5] 32 (0, 0)) := keep_blk (hb := s8) (h := kg); clear kg0 kg1 kgl; obtain ⟨kg0, kg1, kgl⟩ := row_two kg))
  clear o7
  go_wp2_with fail
  refine (markLand_any _ _ _ _ _ _ _ _ _ _ (o4.below (Below.mono (B := w8.heap.size) (by repeat (first | exact Below.refl _ _ | assumption | apply bl_alloc | apply bl_drewN | apply Below.drew | (refine bl_set ?_ (by first | exact Nat.le_refl _ | (simp; done) | (simp; omega)) _) | (refine bl_trans ?_ (by assumption)))) (by omega))) (ints_len _) hmhs (by omega) (by omega)).mono ?_
  rintro e w9 ⟨rfl, q9, m9⟩
  have Q9 : OnlyR (w3.heap.size + 1) w4.heap.size w8 w9 := OnlyR.pre (by repeat (first | exact Below.refl _ _ | assumption | apply bl_alloc | apply bl_drewN | apply Below.drew | (refine bl_set ?_ (by first | exact Nat.le_refl _ | (simp; done) | (simp; omega)) _) | (refine bl_trans ?_ (by assumption)))) (q9.r (o4.below (Below.mono (B := w8.heap.size) (by repeat (first | exact Below.refl _ _ | assumption | apply bl_alloc | apply bl_drewN | apply Below.drew | (refine bl_set ?_ (by first | exact Nat.le_refl _ | (simp; done) | (simp; omega)) _) | (refine bl_trans ?_ (by assumption)))) (by omega))) (Nat.le_of_eq (ints_len _).symm))
  have z9 := Q9.size
  have t9 : Below w.heap.size w w9 := t8.trans (Q9.below (by omega) (by omega))
  replace o3 := o3.onlyR Q9 (by omega)
  replace p3 := p3.onlyR Q9 (by omega)
  replace o5 := o5.onlyR Q9 (by omega)
  replace p5 := p5.onlyR Q9 (by omega)
  replace kp : w9.heap[w.heap.size]? = some (.cells #[.int .i64 r, .int .i64 c, .slice Ahs (List.length hs) chs] 29 (0, 0)) := keep_onlyR kp Q9 (by first | omega | (simp; omega))
  clear kp0 kp1 kp2 kpl
  obtain ⟨kp0, kp1, kp2, kpl⟩ := row_three kp
  replace kw : w9.heap[w3.heap.size]? = some (.cells #[.slice X3 (coL r c hs a b s).length c3, .slice Y3 (coV r c hs a b s).length d3] 32 (0, 0)) := keep_onlyR kw Q9 (by first | omega | (simp; omega))
  clear kw0 kw1 kwl
  obtain ⟨kw0, kw1, kwl⟩ := row_two kw
  replace kx : w9.heap[w4.heap.size]? = some (.cells #[.int .i64 r, .int .i64 c, .slice X4 (List.length hs) c4] 35 (0, 0)) := keep_onlyR kx Q9 (by first | omega | (simp; omega))
  clear kx0 kx1 kx2 kxl
  obtain ⟨kx0, kx1, kx2, kxl⟩ := row_three kx
  replace kg : w9.heap[w5.heap.size]? = some (.cells #[.slice X5 (coL r c hs a b s).length c5, .slice Y5 (coV r c hs a b s).length d5] 32 (0, 0)) := keep_onlyR kg Q9 (by first | omega | (simp; omega))
  clear kg0 kg1 kgl
  obtain ⟨kg0, kg1, kgl⟩ := row_two kg
  clear o4
  go_wp2_with fail
  refine (eqCurve_any _ _ _ _ _ _ _ _ _ _ _ ((o5.below (Below.mono (B := w9.heap.size) (by repeat (first | exact Below.refl _ _ | assumption | apply bl_alloc | apply bl_drewN | apply Below.drew | (refine bl_set ?_ (by first | exact Nat.le_refl _ | (simp; done) | (simp; omega)) _) | (refine bl_trans ?_ (by assumption)))) (by omega))).rc) ((p5.below (Below.mono (B := w9.heap.size) (by repeat (first | exact Below.refl _ _ | assumption | apply bl_alloc | apply bl_drewN | apply Below.drew | (refine bl_set ?_ (by first | exact Nat.le_refl _ | (simp; done) | (simp; omega)) _) | (refine bl_trans ?_ (by assumption)))) (by omega))).rc) ((o3.below (Below.mono (B := w9.heap.size) (by repeat (first | exact Below.refl _ _ | assumption | apply bl_alloc | apply bl_drewN | apply Below.drew | (refine bl_set ?_ (by first | exact Nat.le_refl _ | (simp; done) | (simp; omega)) _) | (refine bl_trans ?_ (by assumption)))) (by omega))).rc) ((p3.below (Below.mono (B := w9.heap.size) (by repeat (first | exact Below.refl _ _ | assumption | apply bl_alloc | apply bl_drewN | apply Below.drew | (refine bl_set ?_ (by first | exact Nat.le_refl _ | (simp; done) | (simp; omega)) _) | (refine bl_trans ?_ (by assumption)))) (by omega))).rc) (Nat.le_trans (coL_len r c a b s hs) (by decide)) (Nat.le_trans (Nat.le_trans (Nat.le_of_eq (coV_len r c a b s hs)) (coL_len r c a b s hs)) (by decide))).mono ?_
  rintro e w10 ⟨rfl, b10⟩
  have s10 : Below w9.heap.size w9 w10 := (by repeat (first | exact Below.refl _ _ | assumption | apply bl_alloc | apply bl_drewN | apply Below.drew | (refine bl_set ?_ (by first | exact Nat.le_refl _ | (simp; done) | (simp; omega)) _) | (refine bl_trans ?_ (by assumption))))
  have z10 := s10.size
  have t10 : Below w.heap.size w w10 := t9.trans (s10.mono (by omega))
  replace o3 := o3.below (s10.mono (by omega))
  replace p3 := p3.below (s10.mono (by omega))
  replace o5 := o5.below (s10.mono (by omega))
  replace p5 := p5.below (s10.mono (by omega))
  replace m9 := m9.below (s10.mono (by omega))
  replace kp : w10.heap[w.heap.size]? = some (.cells #[.int .i64 r, .int .i64 c, .slice Ahs (List.length hs) chs] 29 (0, 0)) := keep_blk (hb := s10) (h := kp)
  clear kp0 kp1 kp2 kpl
  obtain ⟨kp0, kp1, kp2, kpl⟩ := row_three kp
  replace kw : w10.heap[w3.heap.size]? = some (.cells #[.slice X3 (coL r c hs a b s).length c3, .slice Y3 (coV r c hs a b s).length d3] 32 (0, 0)) := keep_blk (hb := s10) (h := kw)
  clear kw0 kw1 kwl
  obtain ⟨kw0, kw1, kwl⟩ := row_two kw
  replace kx : w10.heap[w4.heap.size]? = some (.cells #[.int .i64 r, .int .i64 c, .slice X4 (List.length hs) c4] 35 (0, 0)) := keep_blk (hb := s10) (h := kx)
  clear kx0 kx1 kx2 kxl
  obtain ⟨kx0, kx1, kx2, kxl⟩ := row_three kx
  replace kg : w10.heap[w5.heap.size]? = some (.cells #[.slice X5 (coL r c hs a b s).length c5, .slice Y5 (coV r c hs a b s).length d5] 32 (0, 0)) := keep_blk (hb := s10) (h := kg)
  clear kg0 kg1 kgl
  obtain ⟨kg0, kg1, kgl⟩ := row_two kg
  go_wp2_with fail
  refine (markCurveD_any _ _ _ _ _ _ _ _ _ _ _ _ (o5.below (Below.mono (B := w10.heap.size) (by repeat (first | exact Below.refl _ _ | assumption | apply bl_alloc | apply bl_drewN | apply Below.drew | (refine bl_set ?_ (by first | exact Nat.le_refl _ | (simp; done) | (simp; omega)) _) | (refine bl_trans ?_ (by assumption)))) (by omega))) (ints_len _) (p5.below (Below.mono (B := w10.heap.size) (by repeat (first | exact Below.refl _ _ | assumption | apply bl_alloc | apply bl_drewN | apply Below.drew | (refine bl_set ?_ (by first | exact Nat.le_refl _ | (simp; done) | (simp; omega)) _) | (refine bl_trans ?_ (by assumption)))) (by omega))) (ints_len _) ap5 (by first | omega | exact Nat.le_trans (by omega : _ ≤ w10.heap.size) (Below.size (by repeat (first | exact Below.refl _ _ | assumption | apply bl_alloc | apply bl_drewN | apply Below.drew | (refine bl_set ?_ (by first | exact Nat.le_refl _ | (simp; done) | (simp; omega)) _) | (refine bl_trans ?_ (by assumption)))))) (Nat.le_trans (coL_len r c a b s hs) (by decide)) (Nat.le_trans (Nat.le_trans (Nat.le_of_eq (coV_len r c a b s hs)) (coL_len r c a b s hs)) (by decide)) (by omega) (by omega)).mono ?_
  rintro e w11 ⟨rfl, q11, m11, n11⟩
  have Q11 : OnlyR (w4.heap.size + 1) w5.heap.size w10 w11 := OnlyR.pre (by repeat (first | exact Below.refl _ _ | assumption | apply bl_alloc | apply bl_drewN | apply Below.drew | (refine bl_set ?_ (by first | exact Nat.le_refl _ | (simp; done) | (simp; omega)) _) | (refine bl_trans ?_ (by assumption)))) q11
  have z11 := Q11.size
  have t11 : Below w.heap.size w w11 := t10.trans (Q11.below (by omega) (by omega))
  replace o3 := o3.onlyR Q11 (by omega)
  replace p3 := p3.onlyR Q11 (by omega)
  replace m9 := m9.onlyR Q11 (by omega)
  replace kp : w11.heap[w.heap.size]? = some (.cells #[.int .i64 r, .int .i64 c, .slice Ahs (List.length hs) chs] 29 (0, 0)) := keep_onlyR kp Q11 (by first | omega | (simp; omega))
  clear kp0 kp1 kp2 kpl
  obtain ⟨kp0, kp1, kp2, kpl⟩ := row_three kp
  replace kw : w11.heap[w3.heap.size]? = some (.cells #[.slice X3 (coL r c hs a b s).length c3, .slice Y3 (coV r c hs a b s).length d3] 32 (0, 0)) := keep_onlyR kw Q11 (by first | omega | (simp; omega))
  clear kw0 kw1 kwl
  obtain ⟨kw0, kw1, kwl⟩ := row_two kw
  replace kx : w11.heap[w4.heap.size]? = some (.cells #[.int .i64 r, .int .i64 c, .slice X4 (List.length hs) c4] 35 (0, 0)) := keep_onlyR kx Q11 (by first | omega | (simp; omega))
  clear kx0 kx1 kx2 kxl
  obtain ⟨kx0, kx1, kx2, kxl⟩ := row_three kx
  replace kg : w11.heap[w5.heap.size]? = some (.cells #[.slice X5 (coL r c hs a b s).length c5, .slice Y5 (coV r c hs a b s).length d5] 32 (0, 0)) := keep_onlyR kg Q11 (by first | omega | (simp; omega))
  clear kg0 kg1 kgl
  obtain ⟨kg0, kg1, kgl⟩ := row_two kg
  clear o5 p5
  go_wp2_with fail
  refine (heldCurve_any _ _ _ _ _ _ _ _ ((m11.below (Below.mono (B := w11.heap.size) (by repeat (first | exact Below.refl _ _ | assumption | apply bl_alloc | apply bl_drewN | apply Below.drew | (refine bl_set ?_ (by first | exact Nat.le_refl _ | (simp; done) | (simp; omega)) _) | (refine bl_trans ?_ (by assumption)))) (by omega))).rc) ((n11.below (Below.mono (B := w11.heap.size) (by repeat (first | exact Below.refl _ _ | assumption | apply bl_alloc | apply bl_drewN | apply Below.drew | (refine bl_set ?_ (by first | exact Nat.le_refl _ | (simp; done) | (simp; omega)) _) | (refine bl_trans ?_ (by assumption)))) (by omega))).rc) (Nat.le_trans (coL_len r c a b s hs) (by decide)) (Nat.le_trans (Nat.le_trans (Nat.le_of_eq (coV_len r c a b s hs)) (coL_len r c a b s hs)) (by decide)) (by omega) (by omega)).mono ?_
  rintro e w12 ⟨rfl, b12⟩
  have s12 : Below w11.heap.size w11 w12 := (by repeat (first | exact Below.refl _ _ | assumption | apply bl_alloc | apply bl_drewN | apply Below.drew | (refine bl_set ?_ (by first | exact Nat.le_refl _ | (simp; done) | (simp; omega)) _) | (refine bl_trans ?_ (by assumption))))
  have z12 := s12.size
  have t12 : Below w.heap.size w w12 := t11.trans (s12.mono (by omega))
  replace o3 := o3.below (s12.mono (by omega))
  replace p3 := p3.below (s12.mono (by omega))
  replace m9 := m9.below (s12.mono (by omega))
  replace m11 := m11.below (s12.mono (by omega))
  replace n11 := n11.below (s12.mono (by omega))
  replace kp : w12.heap[w.heap.size]? = some (.cells #[.int .i64 r, .int .i64 c, .slice Ahs (List.length hs) chs] 29 (0, 0)) := keep_blk (hb := s12) (h := kp)
  clear kp0 kp1 kp2 kpl
  obtain ⟨kp0, kp1, kp2, kpl⟩ := row_three kp
  replace kw : w12.heap[w3.heap.size]? = some (.cells #[.slice X3 (coL r c hs a b s).length c3, .slice Y3 (coV r c hs a b s).length d3] 32 (0, 0)) := keep_blk (hb := s12) (h := kw)
  clear kw0 kw1 kwl
  obtain ⟨kw0, kw1, kwl⟩ := row_two kw
  replace kx : w12.heap[w4.heap.size]? = some (.cells #[.int .i64 r, .int .i64 c, .slice X4 (List.length hs) c4] 35 (0, 0)) := keep_blk (hb := s12) (h := kx)
  clear kx0 kx1 kx2 kxl
  obtain ⟨kx0, kx1, kx2, kxl⟩ := row_three kx
  replace kg : w12.heap[w5.heap.size]? = some (.cells #[.slice X5 (coL r c hs a b s).length c5, .slice Y5 (coV r c hs a b s).length d5] 32 (0, 0)) := keep_blk (hb := s12) (h := kg)
  clear kg0 kg1 kgl
  obtain ⟨kg0, kg1, kgl⟩ := row_two kg
  clear m9
  go_wp2_with fail
  refine (toLand_any _ _ _ _ _ _ (rhs.below (by repeat (first | exact Below.refl _ _ | assumption | apply bl_alloc | apply bl_drewN | apply Below.drew | (refine bl_set ?_ (by first | exact Nat.le_refl _ | (simp; done) | (simp; omega)) _) | (refine bl_trans ?_ (by assumption))))) hmhs).mono ?_
  rintro e w13 ⟨X13, c13, rfl, o13, b13⟩
  have s13 : Below w12.heap.size w12 w13 := (by repeat (first | exact Below.refl _ _ | assumption | apply bl_alloc | apply bl_drewN | apply Below.drew | (refine bl_set ?_ (by first | exact Nat.le_refl _ | (simp; done) | (simp; omega)) _) | (refine bl_trans ?_ (by assumption))))
  have z13 := s13.size
  have t13 : Below w.heap.size w w13 := t12.trans (s13.mono (by omega))
  replace o3 := o3.below (s13.mono (by omega))
  replace p3 := p3.below (s13.mono (by omega))
  replace m11 := m11.below (s13.mono (by omega))
  replace n11 := n11.below (s13.mono (by omega))
  replace kp : w13.heap[w.heap.size]? = some (.cells #[.int .i64 r, .int .i64 c, .slice Ahs (List.length hs) chs] 29 (0, 0)) := keep_blk (hb := s13) (h := kp)
  clear kp0 kp1 kp2 kpl
  obtain ⟨kp0, kp1, kp2, kpl⟩ := row_three kp
  replace kw : w13.heap[w3.heap.size]? = some (.cells #[.slice X3 (coL r c hs a b s).length c3, .slice Y3 (coV r c hs a b s).length d3] 32 (0, 0)) := keep_blk (hb := s13) (h := kw)
  clear kw0 kw1 kwl
  obtain ⟨kw0, kw1, kwl⟩ := row_two kw
  replace kg : w13.heap[w5.heap.size]? = some (.cells #[.slice X5 (coL r c hs a b s).length c5, .slice Y5 (coV r c hs a b s).length d5] 32 (0, 0)) := keep_blk (hb := s13) (h := kg)
  clear kg0 kg1 kgl
  obtain ⟨kg0, kg1, kgl⟩ := row_two kg
  replace o13 := o13.wide (B' := w12.heap.size) (E' := w13.heap.size) (Below.size (B := w12.heap.size) (by repeat (first | exact Below.refl _ _ | assumption | apply bl_alloc | apply bl_drewN | apply Below.drew | (refine bl_set ?_ (by first | exact Nat.le_refl _ | (simp; done) | (simp; omega)) _) | (refine bl_trans ?_ (by assumption))))) (Nat.le_refl _)
  go_wp2_with fail
  refine (implCol _ r c _ _ hs a b s ((o13.below (Below.mono (B := w13.heap.size) (by repeat (first | exact Below.refl _ _ | assumption | apply bl_alloc | apply bl_drewN | apply Below.drew | (refine bl_set ?_ (by first | exact Nat.le_refl _ | (simp; done) | (simp; omega)) _) | (refine bl_trans ?_ (by assumption)))) (by omega))).rc) hmhs).mono ?_
  rintro e w14 ⟨X14, c14, Y14, d14, rfl, o14, p14, ap14, b14⟩
  have s14 : Below w13.heap.size w13 w14 := (by repeat (first | exact Below.refl _ _ | assumption | apply bl_alloc | apply bl_drewN | apply Below.drew | (refine bl_set ?_ (by first | exact Nat.le_refl _ | (simp; done) | (simp; omega)) _) | (refine bl_trans ?_ (by assumption))))
  have z14 := s14.size
  have t14 : Below w.heap.size w w14 := t13.trans (s14.mono (by omega))
  replace o3 := o3.below (s14.mono (by omega))
  replace p3 := p3.below (s14.mono (by omega))
  replace m11 := m11.below (s14.mono (by omega))
  replace n11 := n11.below (s14.mono (by omega))
  replace o13 := o13.below (s14.mono (by omega))
  replace kp : w14.heap[w.heap.size]? = some (.cells #[.int .i64 r, .int .i64 c, .slice Ahs (List.length hs) chs] 29 (0, 0)) := keep_blk (hb := s14) (h := kp)
  clear kp0 kp1 kp2 kpl
  obtain ⟨kp0, kp1, kp2, kpl⟩ := row_three kp
  replace kw : w14.heap[w3.heap.size]? = some (.cells #[.slice X3 (coL r c hs a b s).length c3, .slice Y3 (coV r c hs a b s).length d3] 32 (0, 0)) := keep_blk (hb := s14) (h := kw)
  clear kw0 kw1 kwl
  obtain ⟨kw0, kw1, kwl⟩ := row_two kw
  replace kg : w14.heap[w5.heap.size]? = some (.cells #[.slice X5 (coL r c hs a b s).length c5, .slice Y5 (coV r c hs a b s).length d5] 32 (0, 0)) := keep_blk (hb := s14) (h := kg)
  clear kg0 kg1 kgl
  obtain ⟨kg0, kg1, kgl⟩ := row_two kg
  replace o14 := o14.wide (B' := w13.heap.size) (E' := w14.heap.size) (Below.size (B := w13.heap.size) (by repeat (first | exact Below.refl _ _ | assumption | apply bl_alloc | apply bl_drewN | apply Below.drew | (refine bl_set ?_ (by first | exact Nat.le_refl _ | (simp; done) | (simp; omega)) _) | (refine bl_trans ?_ (by assumption))))) (Nat.le_refl _)
  replace p14 := p14.wide (B' := w13.heap.size) (E' := w14.heap.size) (Below.size (B := w13.heap.size) (by repeat (first | exact Below.refl _ _ | assumption | apply bl_alloc | apply bl_drewN | apply Below.drew | (refine bl_set ?_ (by first | exact Nat.le_refl _ | (simp; done) | (simp; omega)) _) | (refine bl_trans ?_ (by assumption))))) (Nat.le_refl _)
  clear o13
  go_wp2_with fail
  refine (eqCurve_any _ _ _ _ _ _ _ _ _ _ _ ((o14.below (Below.mono (B := w14.heap.size) (by repeat (first | exact Below.refl _ _ | assumption | apply bl_alloc | apply bl_drewN | apply Below.drew | (refine bl_set ?_ (by first | exact Nat.le_refl _ | (simp; done) | (simp; omega)) _) | (refine bl_trans ?_ (by assumption)))) (by omega))).rc) ((p14.below (Below.mono (B := w14.heap.size) (by repeat (first | exact Below.refl _ _ | assumption | apply bl_alloc | apply bl_drewN | apply Below.drew | (refine bl_set ?_ (by first | exact Nat.le_refl _ | (simp; done) | (simp; omega)) _) | (refine bl_trans ?_ (by assumption)))) (by omega))).rc) ((o3.below (Below.mono (B := w14.heap.size) (by repeat (first | exact Below.refl _ _ | assumption | apply bl_alloc | apply bl_drewN | apply Below.drew | (refine bl_set ?_ (by first | exact Nat.le_refl _ | (simp; done) | (simp; omega)) _) | (refine bl_trans ?_ (by assumption)))) (by omega))).rc) ((p3.below (Below.mono (B := w14.heap.size) (by repeat (first | exact Below.refl _ _ | assumption | apply bl_alloc | apply bl_drewN | apply Below.drew | (refine bl_set ?_ (by first | exact Nat.le_refl _ | (simp; done) | (simp; omega)) _) | (refine bl_trans ?_ (by assumption)))) (by omega))).rc) (Nat.le_trans (coL_len r c a b s hs) (by decide)) (Nat.le_trans (Nat.le_trans (Nat.le_of_eq (coV_len r c a b s hs)) (coL_len r c a b s hs)) (by decide))).mono ?_
  rintro e w15 ⟨rfl, b15⟩
  have s15 : Below w14.heap.size w14 w15 := (by repeat (first | exact Below.refl _ _ | assumption | apply bl_alloc | apply bl_drewN | apply Below.drew | (refine bl_set ?_ (by first | exact Nat.le_refl _ | (simp; done) | (simp; omega)) _) | (refine bl_trans ?_ (by assumption))))
  have z15 := s15.size
  have t15 : Below w.heap.size w w15 := t14.trans (s15.mono (by omega))
  replace o3 := o3.below (s15.mono (by omega))
  replace p3 := p3.below (s15.mono (by omega))
  replace m11 := m11.below (s15.mono (by omega))
  replace n11 := n11.below (s15.mono (by omega))
  replace o14 := o14.below (s15.mono (by omega))
  replace p14 := p14.below (s15.mono (by omega))
  replace kp : w15.heap[w.heap.size]? = some (.cells #[.int .i64 r, .int .i64 c, .slice Ahs (List.length hs) chs] 29 (0, 0)) := keep_blk (hb := s15) (h := kp)
  clear kp0 kp1 kp2 kpl
  obtain ⟨kp0, kp1, kp2, kpl⟩ := row_three kp
  replace kw : w15.heap[w3.heap.size]? = some (.cells #[.slice X3 (coL r c hs a b s).length c3, .slice Y3 (coV r c hs a b s).length d3] 32 (0, 0)) := keep_blk (hb := s15) (h := kw)
  clear kw0 kw1 kwl
  obtain ⟨kw0, kw1, kwl⟩ := row_two kw
  replace kg : w15.heap[w5.heap.size]? = some (.cells #[.slice X5 (coL r c hs a b s).length c5, .slice Y5 (coV r c hs a b s).length d5] 32 (0, 0)) := keep_blk (hb := s15) (h := kg)
  clear kg0 kg1 kgl
  obtain ⟨kg0, kg1, kgl⟩ := row_two kg
  have kh : w15.heap[w14.heap.size]? = some (.cells #[.slice X14 (coL r c hs a b s).length c14, .slice Y14 (coV r c hs a b s).length d14] 32 (0, 0)) := keep_blk (hb := b15) (h := by repeat (first | (refine blk_new ?_; (first | rfl | (simp; done) | (simp; omega))) | refine blk_drewN ?_ | refine blk_drew ?_ | refine blk_old ?_))
  have vkh := blk_lt kh
  obtain ⟨kh0, kh1, khl⟩ := row_two kh
  go_wp2_with fail
  refine (heldCurve_any _ _ _ _ _ _ _ _ ((m11.below (Below.mono (B := w15.heap.size) (by repeat (first | exact Below.refl _ _ | assumption | apply bl_alloc | apply bl_drewN | apply Below.drew | (refine bl_set ?_ (by first | exact Nat.le_refl _ | (simp; done) | (simp; omega)) _) | (refine bl_trans ?_ (by assumption)))) (by omega))).rc) ((n11.below (Below.mono (B := w15.heap.size) (by repeat (first | exact Below.refl _ _ | assumption | apply bl_alloc | apply bl_drewN | apply Below.drew | (refine bl_set ?_ (by first | exact Nat.le_refl _ | (simp; done) | (simp; omega)) _) | (refine bl_trans ?_ (by assumption)))) (by omega))).rc) (Nat.le_trans (coL_len r c a b s hs) (by decide)) (Nat.le_trans (Nat.le_trans (Nat.le_of_eq (coV_len r c a b s hs)) (coL_len r c a b s hs)) (by decide)) (by omega) (by omega)).mono ?_
  rintro e w16 ⟨rfl, b16⟩
  have s16 : Below w15.heap.size w15 w16 := (by repeat (first | exact Below.refl _ _ | assumption | apply bl_alloc | apply bl_drewN | apply Below.drew | (refine bl_set ?_ (by first | exact Nat.le_refl _ | (simp; done) | (simp; omega)) _) | (refine bl_trans ?_ (by assumption))))
  have z16 := s16.size
  have t16 : Below w.heap.size w w16 := t15.trans (s16.mono (by omega))
  replace o3 := o3.below (s16.mono (by omega))
  replace p3 := p3.below (s16.mono (by omega))
  replace m11 := m11.below (s16.mono (by omega))
  replace n11 := n11.below (s16.mono (by omega))
  replace o14 := o14.below (s16.mono (by omega))
  replace p14 := p14.below (s16.mono (by omega))
  replace kp : w16.heap[w.heap.size]? = some (.cells #[.int .i64 r, .int .i64 c, .slice Ahs (List.length hs) chs] 29 (0, 0)) := keep_blk (hb := s16) (h := kp)
  clear kp0 kp1 kp2 kpl
  obtain ⟨kp0, kp1, kp2, kpl⟩ := row_three kp
  replace kw : w16.heap[w3.heap.size]? = some (.cells #[.slice X3 (coL r c hs a b s).length c3, .slice Y3 (coV r c hs a b s).length d3] 32 (0, 0)) := keep_blk (hb := s16) (h := kw)
  clear kw0 kw1 kwl
  obtain ⟨kw0, kw1, kwl⟩ := row_two kw
  replace kg : w16.heap[w5.heap.size]? = some (.cells #[.slice X5 (coL r c hs a b s).length c5, .slice Y5 (coV r c hs a b s).length d5] 32 (0, 0)) := keep_blk (hb := s16) (h := kg)
  clear kg0 kg1 kgl
  obtain ⟨kg0, kg1, kgl⟩ := row_two kg
  replace kh : w16.heap[w14.heap.size]? = some (.cells #[.slice X14 (coL r c hs a b s).length c14, .slice Y14 (coV r c hs a b s).length d14] 32 (0, 0)) := keep_blk (hb := s16) (h := kh)
  clear kh0 kh1 khl
  obtain ⟨kh0, kh1, khl⟩ := row_two kh
  go_wp2
  go_ret
  exact ⟨rfl, by repeat (first | exact Below.refl _ _ | assumption | apply bl_alloc | apply bl_drewN | apply Below.drew | (refine bl_set ?_ (by first | exact Nat.le_refl _ | (simp; done) | (simp; omega)) _) | (refine bl_trans ?_ (by assumption)))⟩

theorem own : ownKnob Try.prog.godebug = none := by kernel_rfl
theorem laidOut : laidOutB Try.prog = true := by kernel_rfl
set_option maxRecDepth 100000 in
theorem lifted (os : Os) (started : os.Started) (H : Type) (enc : TypeId × Value → H) :
    ReturnsInHanded {} Try.checked os 4 .any (Rows.fnExactCurveOfLandSpec.pre6 enc Try.prog Try.f4 Rows.fnExactCurveOfLandRow.domain false) (Rows.fnExactCurveOfLandSpec.post enc Try.prog Try.f4 false true false false) := by
  refine returnsInHanded_of_change (C := Try.checked) own started (by kernel_rfl) Try.func4
    (ChangeSpec.witness6 (enc := enc) (C := Try.checked) false ⟨#[], #[.agg #[.int .i64 0, .int .i64 0, .slice none 0 0], .int .i64 0, .int .i64 0, .int .i64 0], []⟩ 8 (by kernel_rfl) (by kernel_rfl) (by kernel_rfl) (by kernel_rfl)) ?_
  intro W base args ds gs before hval0 hW hcnd _
  have hval : ∀ (j : Nat) t v, Try.f4.params[j]? = some t → args[j]? = some v → Value.okWide Try.prog W .any base t v := hval0
  have hW' := hW
  obtain ⟨p, q, hA0, hV, rfl, hfz, hnd⟩ := hW
  have hA : DataW.TrodAll enc Try.prog W 0 (fun _ => true) true Try.f4.params.toList args.toList ds p := hA0
  rw [Try.params4] at hA hval
  obtain ⟨v0, vs0, d0, ds0, p0, q0, hargs, rfl, rfl, h0, r0⟩ := trodAll_cons hA
  obtain ⟨v1, vs1, d1, ds1, p1, q1, rfl, rfl, rfl, h1, r1⟩ := trodAll_cons r0
  obtain ⟨v2, vs2, d2, ds2, p2, q2, rfl, rfl, rfl, h2, r2⟩ := trodAll_cons r1
  obtain ⟨v3, vs3, d3, ds3, p3, q3, rfl, rfl, rfl, h3, r3⟩ := trodAll_cons r2
  obtain ⟨rfl, rfl, rfl⟩ := trodAll_nil r3
  obtain rfl : args = #[v0, v1, v2, v3] := by cases args; simp_all
  obtain ⟨rfl, rfl⟩ := trodVars_none hV
  have k0 := h0
  have lt0 : ∀ x ∈ p0, x.block < W.heap.size := by obtain ⟨m, hm⟩ := k0; exact DataW.trod_lt m _ _ _ hm
  obtain ⟨e0_0, e0_1, e0_2, y0_0, y0_1, y0_2, fu0, rfl, _, _, hy0_0, hy0_1, hy0_2⟩ := open_agg3 Try.underlying29 (by kernel_rfl) (by kernel_rfl) (hval 0 29 v0 rfl rfl) h0
  obtain ⟨r, hc0_0, _, wr⟩ := DataW.trod_int Try.underlying2 hy0_0
  simp only [List.cons.injEq, and_true] at hc0_0
  subst hc0_0
  obtain ⟨c, hc0_1, _, wc⟩ := DataW.trod_int Try.underlying2 hy0_1
  simp only [List.cons.injEq, and_true] at hc0_1
  subst hc0_1
  obtain ⟨Ahs, hs, chs, hc0_2, rhs, mhs⟩ := open_list Try.underlying22 Try.underlying2 (by kernel_rfl) hy0_2
  simp only [List.cons.injEq, and_true] at hc0_2
  subst hc0_2
  have k1 := h1
  have lt1 : ∀ x ∈ p1, x.block < W.heap.size := by obtain ⟨m, hm⟩ := k1; exact DataW.trod_lt m _ _ _ hm
  obtain ⟨a, rfl, _, _, wa⟩ := open_int Try.underlying2 (hval 1 2 v1 rfl rfl) h1
  have k2 := h2
  have lt2 : ∀ x ∈ p2, x.block < W.heap.size := by obtain ⟨m, hm⟩ := k2; exact DataW.trod_lt m _ _ _ hm
  obtain ⟨b, rfl, _, _, wb⟩ := open_int Try.underlying2 (hval 2 2 v2 rfl rfl) h2
  have k3 := h3
  have lt3 : ∀ x ∈ p3, x.block < W.heap.size := by obtain ⟨m, hm⟩ := k3; exact DataW.trod_lt m _ _ _ hm
  obtain ⟨s, rfl, _, _, ws⟩ := open_int Try.underlying2 (hval 3 2 v3 rfl rfl) h3
  refine (walk r c Ahs hs chs a b s W wr wc rhs mhs wa wb ws).mono fun e W' ⟨he, bel⟩ => ?_
  subst he
  exact ⟨_, rfl, _, _, _, [], _, [], hW', trodAll_mk1 (shut_bool Try.underlying4 _), (trodAll_cons_mk (Below.trod laidOut (by kernel_rfl) (of_decide_eq_true (by kernel_rfl)) k0 bel lt0) (trodAll_cons_mk (Below.trod laidOut (by kernel_rfl) (of_decide_eq_true (by kernel_rfl)) k1 bel lt1) (trodAll_cons_mk (Below.trod laidOut (by kernel_rfl) (of_decide_eq_true (by kernel_rfl)) k2 bel lt2) (trodAll_cons_mk (Below.trod laidOut (by kernel_rfl) (of_decide_eq_true (by kernel_rfl)) k3 bel lt3) trodAll_mk0)))), rfl, bel.frame _, fun h => by cases h⟩
theorem over : Rows.fnExactCurveOfLandRow.holds Try.pinned (OpenSpec.ofChange Rows.fnExactCurveOfLandSpec) :=
  OpenClaim.holds_of_wide 4 Try.f4 rfl rfl rfl rfl rfl rfl rfl ⟨rfl, rfl, rfl, rfl, rfl⟩ rfl rfl rfl rfl rfl (by kernel_rfl) Try.func4 (by kernel_rfl)
    (of_decide_eq_true (by kernel_rfl)) (by unfold Func.isWrapper; first | (rw [if_pos (by decide +kernel)]; kernel_rfl) | (rw [if_neg (by decide +kernel)]; exact ⟨rfl, rfl⟩))
    (fun os started H enc _ => lifted os started H enc)
/-- the statement -/
theorem proved : Rows.FnExactCurveOfLandSaid := over
#print axioms proved
end Go.Proofs.Ytcgnnlgakfndaaa.fnExactCurveOfLand
