/-
  The law 'FnExactFlowProof' holds for every input: whether a cut proves flows to be greatest is told as the reference tells it. No condition.
  The frame follows the kit's template for such a statement; the walk is ours.
-/
import Derived.Test.YthgdiddgooippaaRows
import Derived.Test.YthgdiddgooippaaOnly
import Derived.Test.YthgdiddgooippaaFlow
import Derived.Test.YthgdiddgooippaaOpenNet
import Derived.Lib.SmallJoins
import Derived.Deep.RegionHeld3
namespace Go.Proofs.Ythgdiddgooippaa.fnExactFlowProof
open Go.ChangeShapes Go.WideShapes Go.ChangeAt Go.RowKit Go.Joins
open Go.ChangeMaps (open_string shut_string)
set_option linter.unusedVariables false
set_option maxHeartbeats 4000000 in
theorem walk (J : Int) (Ads : Option Addr) (nds : Nat) (ds : List Int) (cds : Nat) (s : Int) (Afs : Option Addr) (fs : List Int) (cfs : Nat) (Ass : Option Addr) (ss : List Int) (css : Nat) (w : World) (wJ : (Lit.int .i64 J).wf = true) (lfds : ds.length = nds * 3) (rds : RC w Ads (ints ds)) (mds : nds ≤ 9223372036854775807) (ws : (Lit.int .i64 s).wf = true) (rfs : RC w Afs (ints fs)) (mfs : fs.length ≤ 9223372036854775807) (rss : RC w Ass (ints ss)) (mss : ss.length ≤ 9223372036854775807) :
    Calls Try.prog 10 #[.agg #[.int .i64 J, .slice Ads nds cds], .int .i64 s, .slice Afs (List.length fs) cfs, .slice Ass (List.length ss) css] w fun e w' => e = .returned (.bool true) ∧ Below w.heap.size w w' := by
  clear wJ ws
  have LFds := Lib.hid lfds
  clear lfds
  by_cases hmfs : fs.length ≤ 1048576
  rotate_left
  · go_enter Try.func10, Try.ntmps10
    go_wp2_with fail
    go_ret
    exact ⟨rfl, by repeat (first | exact Below.refl _ _ | assumption | apply bl_alloc | apply bl_drewN | apply Below.drew | (refine bl_set ?_ (by first | exact Nat.le_refl _ | (simp; done) | (simp; omega)) _) | (refine bl_trans ?_ (by assumption)))⟩
  by_cases hmss : ss.length ≤ 1048576
  rotate_left
  · go_enter Try.func10, Try.ntmps10
    go_wp2_with fail
    go_ret
    exact ⟨rfl, by repeat (first | exact Below.refl _ _ | assumption | apply bl_alloc | apply bl_drewN | apply Below.drew | (refine bl_set ?_ (by first | exact Nat.le_refl _ | (simp; done) | (simp; omega)) _) | (refine bl_trans ?_ (by assumption)))⟩
  by_cases hz0 : nds ≤ 1048576
  rotate_left
  · go_enter Try.func10, Try.ntmps10
    go_wp2_with fail
    refine (szNet_no _ _ _ _ _ _ (by omega) (by omega) (by omega) mds).mono ?_
    rintro e w1 ⟨rfl, b1⟩
    go_wp2
    go_ret
    exact ⟨rfl, by repeat (first | exact Below.refl _ _ | assumption | apply bl_alloc | apply bl_drewN | apply Below.drew | (refine bl_set ?_ (by first | exact Nat.le_refl _ | (simp; done) | (simp; omega)) _) | (refine bl_trans ?_ (by assumption)))⟩
  have hmds : nds ≤ 1048576 := by omega
  go_enter Try.func10, Try.ntmps10
  go_wp2_with fail
  refine (szNet_yes _ _ _ _ _ _ (by omega) (by omega)).mono ?_
  rintro e w1 ⟨rfl, b1⟩
  have s1 : Below w.heap.size w w1 := (by repeat (first | exact Below.refl _ _ | assumption | apply bl_alloc | apply bl_drewN | apply Below.drew | (refine bl_set ?_ (by first | exact Nat.le_refl _ | (simp; done) | (simp; omega)) _) | (refine bl_trans ?_ (by assumption))))
  have z1 := s1.size
  have t1 : Below w.heap.size w w1 := s1
  have kp : w1.heap[w.heap.size]? = some (.cells #[.int .i64 J, .slice Ads nds cds] 24 (0, 0)) := keep_blk (hb := b1) (h := by repeat (first | (refine blk_new ?_; (first | rfl | (simp; done) | (simp; omega))) | refine blk_drewN ?_ | refine blk_old ?_))
  have vkp := blk_lt kp
  obtain ⟨kp0, kp1, kpl⟩ := row_two kp
  go_wp2_with fail
  refine (toNet_any _ _ _ _ _ _ (rds.below (by repeat (first | exact Below.refl _ _ | assumption | apply bl_alloc | apply bl_drewN | apply Below.drew | (refine bl_set ?_ (by first | exact Nat.le_refl _ | (simp; done) | (simp; omega)) _) | (refine bl_trans ?_ (by assumption))))) LFds.out hmds).mono ?_
  rintro e w2 ⟨X2, c2, rfl, o2, b2⟩
  have s2 : Below w1.heap.size w1 w2 := (by repeat (first | exact Below.refl _ _ | assumption | apply bl_alloc | apply bl_drewN | apply Below.drew | (refine bl_set ?_ (by first | exact Nat.le_refl _ | (simp; done) | (simp; omega)) _) | (refine bl_trans ?_ (by assumption))))
  have z2 := s2.size
  have t2 : Below w.heap.size w w2 := t1.trans (s2.mono (by omega))
  replace kp : w2.heap[w.heap.size]? = some (.cells #[.int .i64 J, .slice Ads nds cds] 24 (0, 0)) := keep_blk (hb := s2) (h := kp)
  clear kp0 kp1 kpl
  obtain ⟨kp0, kp1, kpl⟩ := row_two kp
  replace o2 := o2.wide (B' := w1.heap.size) (E' := w2.heap.size) (Below.size (B := w1.heap.size) (by repeat (first | exact Below.refl _ _ | assumption | apply bl_alloc | apply bl_drewN | apply Below.drew | (refine bl_set ?_ (by first | exact Nat.le_refl _ | (simp; done) | (simp; omega)) _) | (refine bl_trans ?_ (by assumption))))) (Nat.le_refl _)
  go_wp2_with fail
  refine (toInts _ _ _ _ (rfs.below (by repeat (first | exact Below.refl _ _ | assumption | apply bl_alloc | apply bl_drewN | apply Below.drew | (refine bl_set ?_ (by first | exact Nat.le_refl _ | (simp; done) | (simp; omega)) _) | (refine bl_trans ?_ (by assumption))))) hmfs).mono ?_
  rintro e w3 ⟨X3, c3, rfl, o3, b3⟩
  have s3 : Below w2.heap.size w2 w3 := (by repeat (first | exact Below.refl _ _ | assumption | apply bl_alloc | apply bl_drewN | apply Below.drew | (refine bl_set ?_ (by first | exact Nat.le_refl _ | (simp; done) | (simp; omega)) _) | (refine bl_trans ?_ (by assumption))))
  have z3 := s3.size
  have t3 : Below w.heap.size w w3 := t2.trans (s3.mono (by omega))
  replace o2 := o2.below (s3.mono (by omega))
  replace kp : w3.heap[w.heap.size]? = some (.cells #[.int .i64 J, .slice Ads nds cds] 24 (0, 0)) := keep_blk (hb := s3) (h := kp)
  clear kp0 kp1 kpl
  obtain ⟨kp0, kp1, kpl⟩ := row_two kp
  replace o3 := o3.wide (B' := w2.heap.size) (E' := w3.heap.size) (Below.size (B := w2.heap.size) (by repeat (first | exact Below.refl _ _ | assumption | apply bl_alloc | apply bl_drewN | apply Below.drew | (refine bl_set ?_ (by first | exact Nat.le_refl _ | (simp; done) | (simp; omega)) _) | (refine bl_trans ?_ (by assumption))))) (Nat.le_refl _)
  go_wp2_with fail
  refine (toInts _ _ _ _ (rss.below (by repeat (first | exact Below.refl _ _ | assumption | apply bl_alloc | apply bl_drewN | apply Below.drew | (refine bl_set ?_ (by first | exact Nat.le_refl _ | (simp; done) | (simp; omega)) _) | (refine bl_trans ?_ (by assumption))))) hmss).mono ?_
  rintro e w4 ⟨X4, c4, rfl, o4, b4⟩
  have s4 : Below w3.heap.size w3 w4 := (by repeat (first | exact Below.refl _ _ | assumption | apply bl_alloc | apply bl_drewN | apply Below.drew | (refine bl_set ?_ (by first | exact Nat.le_refl _ | (simp; done) | (simp; omega)) _) | (refine bl_trans ?_ (by assumption))))
  have z4 := s4.size
  have t4 : Below w.heap.size w w4 := t3.trans (s4.mono (by omega))
  replace o2 := o2.below (s4.mono (by omega))
  replace o3 := o3.below (s4.mono (by omega))
  replace kp : w4.heap[w.heap.size]? = some (.cells #[.int .i64 J, .slice Ads nds cds] 24 (0, 0)) := keep_blk (hb := s4) (h := kp)
  clear kp0 kp1 kpl
  obtain ⟨kp0, kp1, kpl⟩ := row_two kp
  replace o4 := o4.wide (B' := w3.heap.size) (E' := w4.heap.size) (Below.size (B := w3.heap.size) (by repeat (first | exact Below.refl _ _ | assumption | apply bl_alloc | apply bl_drewN | apply Below.drew | (refine bl_set ?_ (by first | exact Nat.le_refl _ | (simp; done) | (simp; omega)) _) | (refine bl_trans ?_ (by assumption))))) (Nat.le_refl _)
  go_wp2_with fail
  refine (specFlowProof _ J s _ _ _ nds _ _ _ ds fs ss ((o2.below (Below.mono (B := w4.heap.size) (by repeat (first | exact Below.refl _ _ | assumption | apply bl_alloc | apply bl_drewN | apply Below.drew | (refine bl_set ?_ (by first | exact Nat.le_refl _ | (simp; done) | (simp; omega)) _) | (refine bl_trans ?_ (by assumption)))) (by omega))).rc) LFds.out hmds ((o3.below (Below.mono (B := w4.heap.size) (by repeat (first | exact Below.refl _ _ | assumption | apply bl_alloc | apply bl_drewN | apply Below.drew | (refine bl_set ?_ (by first | exact Nat.le_refl _ | (simp; done) | (simp; omega)) _) | (refine bl_trans ?_ (by assumption)))) (by omega))).rc) hmfs ((o4.below (Below.mono (B := w4.heap.size) (by repeat (first | exact Below.refl _ _ | assumption | apply bl_alloc | apply bl_drewN | apply Below.drew | (refine bl_set ?_ (by first | exact Nat.le_refl _ | (simp; done) | (simp; omega)) _) | (refine bl_trans ?_ (by assumption)))) (by omega))).rc) hmss).mono ?_
  rintro e w5 ⟨rfl, b5⟩
  have s5 : Below w4.heap.size w4 w5 := (by repeat (first | exact Below.refl _ _ | assumption | apply bl_alloc | apply bl_drewN | apply Below.drew | (refine bl_set ?_ (by first | exact Nat.le_refl _ | (simp; done) | (simp; omega)) _) | (refine bl_trans ?_ (by assumption))))
  have z5 := s5.size
  have t5 : Below w.heap.size w w5 := t4.trans (s5.mono (by omega))
  replace o2 := o2.below (s5.mono (by omega))
  replace o3 := o3.below (s5.mono (by omega))
  replace o4 := o4.below (s5.mono (by omega))
  replace kp : w5.heap[w.heap.size]? = some (.cells #[.int .i64 J, .slice Ads nds cds] 24 (0, 0)) := keep_blk (hb := s5) (h := kp)
  clear kp0 kp1 kpl
  obtain ⟨kp0, kp1, kpl⟩ := row_two kp
  clear o2 o3 o4
  go_wp2_with fail
  refine (toNet_any _ _ _ _ _ _ (rds.below (by repeat (first | exact Below.refl _ _ | assumption | apply bl_alloc | apply bl_drewN | apply Below.drew | (refine bl_set ?_ (by first | exact Nat.le_refl _ | (simp; done) | (simp; omega)) _) | (refine bl_trans ?_ (by assumption))))) LFds.out hmds).mono ?_
  rintro e w6 ⟨X6, c6, rfl, o6, b6⟩
  have s6 : Below w5.heap.size w5 w6 := (by repeat (first | exact Below.refl _ _ | assumption | apply bl_alloc | apply bl_drewN | apply Below.drew | (refine bl_set ?_ (by first | exact Nat.le_refl _ | (simp; done) | (simp; omega)) _) | (refine bl_trans ?_ (by assumption))))
  have z6 := s6.size
  have t6 : Below w.heap.size w w6 := t5.trans (s6.mono (by omega))
  replace kp : w6.heap[w.heap.size]? = some (.cells #[.int .i64 J, .slice Ads nds cds] 24 (0, 0)) := keep_blk (hb := s6) (h := kp)
  clear kp0 kp1 kpl
  obtain ⟨kp0, kp1, kpl⟩ := row_two kp
  replace o6 := o6.wide (B' := w5.heap.size) (E' := w6.heap.size) (Below.size (B := w5.heap.size) (by repeat (first | exact Below.refl _ _ | assumption | apply bl_alloc | apply bl_drewN | apply Below.drew | (refine bl_set ?_ (by first | exact Nat.le_refl _ | (simp; done) | (simp; omega)) _) | (refine bl_trans ?_ (by assumption))))) (Nat.le_refl _)
  go_wp2_with fail
  refine (toInts _ _ _ _ (rfs.below (by repeat (first | exact Below.refl _ _ | assumption | apply bl_alloc | apply bl_drewN | apply Below.drew | (refine bl_set ?_ (by first | exact Nat.le_refl _ | (simp; done) | (simp; omega)) _) | (refine bl_trans ?_ (by assumption))))) hmfs).mono ?_
  rintro e w7 ⟨X7, c7, rfl, o7, b7⟩
  have s7 : Below w6.heap.size w6 w7 := (by repeat (first | exact Below.refl _ _ | assumption | apply bl_alloc | apply bl_drewN | apply Below.drew | (refine bl_set ?_ (by first | exact Nat.le_refl _ | (simp; done) | (simp; omega)) _) | (refine bl_trans ?_ (by assumption))))
  have z7 := s7.size
  have t7 : Below w.heap.size w w7 := t6.trans (s7.mono (by omega))
  replace o6 := o6.below (s7.mono (by omega))
  replace kp : w7.heap[w.heap.size]? = some (.cells #[.int .i64 J, .slice Ads nds cds] 24 (0, 0)) := keep_blk (hb := s7) (h := kp)
  clear kp0 kp1 kpl
  obtain ⟨kp0, kp1, kpl⟩ := row_two kp
  have kx : w7.heap[w6.heap.size]? = some (.cells #[.int .i64 J, .slice X6 nds c6] 29 (0, 0)) := keep_blk (hb := b7) (h := by repeat (first | (refine blk_new ?_; (first | rfl | (simp; done) | (simp; omega))) | refine blk_drewN ?_ | refine blk_old ?_))
  have vkx := blk_lt kx
  obtain ⟨kx0, kx1, kxl⟩ := row_two kx
  replace o7 := o7.wide (B' := (w6.heap.size + 1)) (E' := w7.heap.size) (by first | exact Nat.le_refl _ | (simp; done) | (simp; omega)) (Nat.le_refl _)
  go_wp2_with fail
  refine (toInts _ _ _ _ (rss.below (by repeat (first | exact Below.refl _ _ | assumption | apply bl_alloc | apply bl_drewN | apply Below.drew | (refine bl_set ?_ (by first | exact Nat.le_refl _ | (simp; done) | (simp; omega)) _) | (refine bl_trans ?_ (by assumption))))) hmss).mono ?_
  rintro e w8 ⟨X8, c8, rfl, o8, b8⟩
  have s8 : Below w7.heap.size w7 w8 := (by repeat (first | exact Below.refl _ _ | assumption | apply bl_alloc | apply bl_drewN | apply Below.drew | (refine bl_set ?_ (by first | exact Nat.le_refl _ | (simp; done) | (simp; omega)) _) | (refine bl_trans ?_ (by assumption))))
  have z8 := s8.size
  have t8 : Below w.heap.size w w8 := t7.trans (s8.mono (by omega))
  replace o6 := o6.below (s8.mono (by omega))
  replace o7 := o7.below (s8.mono (by omega))
  replace kp : w8.heap[w.heap.size]? = some (.cells #[.int .i64 J, .slice Ads nds cds] 24 (0, 0)) := keep_blk (hb := s8) (h := kp)
  clear kp0 kp1 kpl
  obtain ⟨kp0, kp1, kpl⟩ := row_two kp
  replace kx : w8.heap[w6.heap.size]? = some (.cells #[.int .i64 J, .slice X6 nds c6] 29 (0, 0)) := keep_blk (hb := s8) (h := kx)
  clear kx0 kx1 kxl
  obtain ⟨kx0, kx1, kxl⟩ := row_two kx
  replace o8 := o8.wide (B' := w7.heap.size) (E' := w8.heap.size) (Below.size (B := w7.heap.size) (by repeat (first | exact Below.refl _ _ | assumption | apply bl_alloc | apply bl_drewN | apply Below.drew | (refine bl_set ?_ (by first | exact Nat.le_refl _ | (simp; done) | (simp; omega)) _) | (refine bl_trans ?_ (by assumption))))) (Nat.le_refl _)
  go_wp2_with fail
  refine (implFlowProof _ J s _ _ _ nds _ _ _ ds fs ss ((o6.below (Below.mono (B := w8.heap.size) (by repeat (first | exact Below.refl _ _ | assumption | apply bl_alloc | apply bl_drewN | apply Below.drew | (refine bl_set ?_ (by first | exact Nat.le_refl _ | (simp; done) | (simp; omega)) _) | (refine bl_trans ?_ (by assumption)))) (by omega))).rc) LFds.out hmds ((o7.below (Below.mono (B := w8.heap.size) (by repeat (first | exact Below.refl _ _ | assumption | apply bl_alloc | apply bl_drewN | apply Below.drew | (refine bl_set ?_ (by first | exact Nat.le_refl _ | (simp; done) | (simp; omega)) _) | (refine bl_trans ?_ (by assumption)))) (by omega))).rc) hmfs ((o8.below (Below.mono (B := w8.heap.size) (by repeat (first | exact Below.refl _ _ | assumption | apply bl_alloc | apply bl_drewN | apply Below.drew | (refine bl_set ?_ (by first | exact Nat.le_refl _ | (simp; done) | (simp; omega)) _) | (refine bl_trans ?_ (by assumption)))) (by omega))).rc) hmss).mono ?_
  rintro e w9 ⟨rfl, b9⟩
  have s9 : Below w8.heap.size w8 w9 := (by repeat (first | exact Below.refl _ _ | assumption | apply bl_alloc | apply bl_drewN | apply Below.drew | (refine bl_set ?_ (by first | exact Nat.le_refl _ | (simp; done) | (simp; omega)) _) | (refine bl_trans ?_ (by assumption))))
  have z9 := s9.size
  have t9 : Below w.heap.size w w9 := t8.trans (s9.mono (by omega))
  replace o6 := o6.below (s9.mono (by omega))
  replace o7 := o7.below (s9.mono (by omega))
  replace o8 := o8.below (s9.mono (by omega))
  replace kp : w9.heap[w.heap.size]? = some (.cells #[.int .i64 J, .slice Ads nds cds] 24 (0, 0)) := keep_blk (hb := s9) (h := kp)
  clear kp0 kp1 kpl
  obtain ⟨kp0, kp1, kpl⟩ := row_two kp
  replace kx : w9.heap[w6.heap.size]? = some (.cells #[.int .i64 J, .slice X6 nds c6] 29 (0, 0)) := keep_blk (hb := s9) (h := kx)
  clear kx0 kx1 kxl
  obtain ⟨kx0, kx1, kxl⟩ := row_two kx
  go_wp2_with fail
  go_region_held3 (fun w' => w'.cell? ⟨w6.heap.size, 0, none⟩ = some (.int .i64 J) ∧ w'.cell? ⟨w6.heap.size, 1, none⟩ = some (.slice X6 nds c6) ∧ w'.cell? ⟨w.heap.size, 0, none⟩ = some (.int .i64 J) ∧ w'.cell? ⟨w.heap.size, 1, none⟩ = some (.slice Ads nds cds)) (((try dsimp only); refine ⟨?_, ?_, ?_, ?_⟩ <;> (repeat (first | with_reducible assumption | with_reducible refine kc_drew ?_ | with_reducible refine kc_drewN ?_ | with_reducible refine kc_alloc ?_ | with_reducible refine kc_set ?_ (by first | omega | (simp; done) | (simp; omega)))))) (first | (go_at_call 13; refine (toNet_any _ _ _ _ _ _ (rds.below (by repeat (first | exact Below.refl _ _ | assumption | apply bl_alloc | apply bl_drewN | apply Below.drew | (refine bl_set ?_ (by first | exact Nat.le_refl _ | (simp; done) | (simp; omega)) _) | (refine bl_trans ?_ (by assumption))))) LFds.out hmds).mono ?_; rintro e w10 ⟨X10, c10, rfl, o10, b10⟩; have s10 : Below w9.heap.size w9 w10 := (by repeat (first | exact Below.refl _ _ | assumption | apply bl_alloc | apply bl_drewN | apply Below.drew | (refine bl_set ?_ (by first | exact Nat.le_refl _ | (simp; done) | (simp; omega)) _) | (refine bl_trans ?_ (by assumption)))); have z10 := s10.size; have t10 : Below w.heap.size w w10 := t9.trans (s10.mono (by omega)); replace o6 := o6.below (s10.mono (by omega)); replace o7 := o7.below (s10.mono (by omega)); replace o8 := o8.below (s10.mono (by omega)); replace kp : w10.heap[w.heap.size]? = some (.cells #[.int .i64 J, .slice Ads nds cds] 24 (0, 0)) := keep_blk (hb := s10) (h := kp); clear kp0 kp1 kpl; obtain ⟨kp0, kp1, kpl⟩ := row_two kp; replace kx : w10.heap[w6.heap.size]? = some (.cells #[.int .i64 J, .slice X6 nds c6] 29 (0, 0)) := keep_blk (hb := s10) (h := kx); clear kx0 kx1 kxl; obtain ⟨kx0, kx1, kxl⟩ := row_two kx; replace o10 := o10.wide (B' := w9.heap.size) (E' := w10.heap.size) (Below.size (B := w9.heap.size) (by repeat (first | exact Below.refl _ _ | assumption | apply bl_alloc | apply bl_drewN | apply Below.drew | (refine bl_set ?_ (by first | exact Nat.le_refl _ | (simp; done) | (simp; omega)) _) | (refine bl_trans ?_ (by assumption))))) (Nat.le_refl _)) | (go_at_call 15; refine (eqNet_any _ _ _ _ _ _ _ _ ((o6.below (Below.mono (B := w10.heap.size) (by repeat (first | exact Below.refl _ _ | assumption | apply bl_alloc | apply bl_drewN | apply Below.drew | (refine bl_set ?_ (by first | exact Nat.le_refl _ | (simp; done) | (simp; omega)) _) | (refine bl_trans ?_ (by assumption)))) (by omega))).rc) ((o10.below (Below.mono (B := w10.heap.size) (by repeat (first | exact Below.refl _ _ | assumption | apply bl_alloc | apply bl_drewN | apply Below.drew | (refine bl_set ?_ (by first | exact Nat.le_refl _ | (simp; done) | (simp; omega)) _) | (refine bl_trans ?_ (by assumption)))) (by omega))).rc) LFds.out hmds).mono ?_; rintro e w11 ⟨rfl, b11⟩; have s11 : Below w10.heap.size w10 w11 := (by repeat (first | exact Below.refl _ _ | assumption | apply bl_alloc | apply bl_drewN | apply Below.drew | (refine bl_set ?_ (by first | exact Nat.le_refl _ | (simp; done) | (simp; omega)) _) | (refine bl_trans ?_ (by assumption)))); have z11 := s11.size; have t11 : Below w.heap.size w w11 := t10.trans (s11.mono (by omega)); replace o6 := o6.below (s11.mono (by omega)); replace o7 := o7.below (s11.mono (by omega)); replace o8 := o8.below (s11.mono (by omega)); replace o10 := o10.below (s11.mono (by omega)); replace kp : w11.heap[w.heap.size]? = some (.cells #[.int .i64 J, .slice Ads nds cds] 24 (0, 0)) := keep_blk (hb := s11) (h := kp); clear kp0 kp1 kpl; obtain ⟨kp0, kp1, kpl⟩ := row_two kp; replace kx : w11.heap[w6.heap.size]? = some (.cells #[.int .i64 J, .slice X6 nds c6] 29 (0, 0)) := keep_blk (hb := s11) (h := kx); clear kx0 kx1 kxl; obtain ⟨kx0, kx1, kxl⟩ := row_two kx))
  clear o10
  go_wp2_with fail
  refine (toInts _ _ _ _ (rfs.below (by repeat (first | exact Below.refl _ _ | assumption | apply bl_alloc | apply bl_drewN | apply Below.drew | (refine bl_set ?_ (by first | exact Nat.le_refl _ | (simp; done) | (simp; omega)) _) | (refine bl_trans ?_ (by assumption))))) hmfs).mono ?_
  rintro e w12 ⟨X12, c12, rfl, o12, b12⟩
  have s12 : Below w11.heap.size w11 w12 := (by repeat (first | exact Below.refl _ _ | assumption | apply bl_alloc | apply bl_drewN | apply Below.drew | (refine bl_set ?_ (by first | exact Nat.le_refl _ | (simp; done) | (simp; omega)) _) | (refine bl_trans ?_ (by assumption))))
  have z12 := s12.size
  have t12 : Below w.heap.size w w12 := t11.trans (s12.mono (by omega))
  replace o6 := o6.below (s12.mono (by omega))
  replace o7 := o7.below (s12.mono (by omega))
  replace o8 := o8.below (s12.mono (by omega))
  replace kp : w12.heap[w.heap.size]? = some (.cells #[.int .i64 J, .slice Ads nds cds] 24 (0, 0)) := keep_blk (hb := s12) (h := kp)
  clear kp0 kp1 kpl
  obtain ⟨kp0, kp1, kpl⟩ := row_two kp
  replace kx : w12.heap[w6.heap.size]? = some (.cells #[.int .i64 J, .slice X6 nds c6] 29 (0, 0)) := keep_blk (hb := s12) (h := kx)
  clear kx0 kx1 kxl
  obtain ⟨kx0, kx1, kxl⟩ := row_two kx
  replace o12 := o12.wide (B' := w11.heap.size) (E' := w12.heap.size) (Below.size (B := w11.heap.size) (by repeat (first | exact Below.refl _ _ | assumption | apply bl_alloc | apply bl_drewN | apply Below.drew | (refine bl_set ?_ (by first | exact Nat.le_refl _ | (simp; done) | (simp; omega)) _) | (refine bl_trans ?_ (by assumption))))) (Nat.le_refl _)
  go_wp2_with fail
  refine (eqInts _ _ _ _ _ _ ((o7.below (Below.mono (B := w12.heap.size) (by repeat (first | exact Below.refl _ _ | assumption | apply bl_alloc | apply bl_drewN | apply Below.drew | (refine bl_set ?_ (by first | exact Nat.le_refl _ | (simp; done) | (simp; omega)) _) | (refine bl_trans ?_ (by assumption)))) (by omega))).rc) ((o12.below (Below.mono (B := w12.heap.size) (by repeat (first | exact Below.refl _ _ | assumption | apply bl_alloc | apply bl_drewN | apply Below.drew | (refine bl_set ?_ (by first | exact Nat.le_refl _ | (simp; done) | (simp; omega)) _) | (refine bl_trans ?_ (by assumption)))) (by omega))).rc) hmfs).mono ?_
  rintro e w' ⟨rfl, dd12_131, rfl⟩
  clear o12
  go_wp2_with fail
  refine (toInts _ _ _ _ (rss.below (by repeat (first | exact Below.refl _ _ | assumption | apply bl_alloc | apply bl_drewN | apply Below.drew | (refine bl_set ?_ (by first | exact Nat.le_refl _ | (simp; done) | (simp; omega)) _) | (refine bl_trans ?_ (by assumption))))) hmss).mono ?_
  rintro e w13 ⟨X13, c13, rfl, o13, b13⟩
  have s13 : Below w12.heap.size w12 w13 := (by repeat (first | exact Below.refl _ _ | assumption | apply bl_alloc | apply bl_drewN | apply Below.drew | (refine bl_set ?_ (by first | exact Nat.le_refl _ | (simp; done) | (simp; omega)) _) | (refine bl_trans ?_ (by assumption))))
  have z13 := s13.size
  have t13 : Below w.heap.size w w13 := t12.trans (s13.mono (by omega))
  replace o6 := o6.below (s13.mono (by omega))
  replace o7 := o7.below (s13.mono (by omega))
  replace o8 := o8.below (s13.mono (by omega))
  replace kp : w13.heap[w.heap.size]? = some (.cells #[.int .i64 J, .slice Ads nds cds] 24 (0, 0)) := keep_blk (hb := s13) (h := kp)
  clear kp0 kp1 kpl
  obtain ⟨kp0, kp1, kpl⟩ := row_two kp
  replace kx : w13.heap[w6.heap.size]? = some (.cells #[.int .i64 J, .slice X6 nds c6] 29 (0, 0)) := keep_blk (hb := s13) (h := kx)
  clear kx0 kx1 kxl
  obtain ⟨kx0, kx1, kxl⟩ := row_two kx
  replace o13 := o13.wide (B' := w12.heap.size) (E' := w13.heap.size) (Below.size (B := w12.heap.size) (by repeat (first | exact Below.refl _ _ | assumption | apply bl_alloc | apply bl_drewN | apply Below.drew | (refine bl_set ?_ (by first | exact Nat.le_refl _ | (simp; done) | (simp; omega)) _) | (refine bl_trans ?_ (by assumption))))) (Nat.le_refl _)
  go_wp2_with fail
  refine (eqInts _ _ _ _ _ _ ((o8.below (Below.mono (B := w13.heap.size) (by repeat (first | exact Below.refl _ _ | assumption | apply bl_alloc | apply bl_drewN | apply Below.drew | (refine bl_set ?_ (by first | exact Nat.le_refl _ | (simp; done) | (simp; omega)) _) | (refine bl_trans ?_ (by assumption)))) (by omega))).rc) ((o13.below (Below.mono (B := w13.heap.size) (by repeat (first | exact Below.refl _ _ | assumption | apply bl_alloc | apply bl_drewN | apply Below.drew | (refine bl_set ?_ (by first | exact Nat.le_refl _ | (simp; done) | (simp; omega)) _) | (refine bl_trans ?_ (by assumption)))) (by omega))).rc) hmss).mono ?_
  rintro e w' ⟨rfl, dd13_151, rfl⟩
  clear o13
  go_wp2
  go_ret
  exact ⟨rfl, by repeat (first | exact Below.refl _ _ | assumption | apply bl_alloc | apply bl_drewN | apply Below.drew | (refine bl_set ?_ (by first | exact Nat.le_refl _ | (simp; done) | (simp; omega)) _) | (refine bl_trans ?_ (by assumption)))⟩

theorem own : ownKnob Try.prog.godebug = none := by kernel_rfl
theorem laidOut : laidOutB Try.prog = true := by kernel_rfl
set_option maxRecDepth 100000 in
theorem lifted (os : Os) (started : os.Started) (H : Type) (enc : TypeId × Value → H) :
    ReturnsInHanded {} Try.checked os 10 .any (Rows.fnExactFlowProofSpec.pre6 enc Try.prog Try.f10 Rows.fnExactFlowProofRow.domain false) (Rows.fnExactFlowProofSpec.post enc Try.prog Try.f10 false true false false) := by
  refine returnsInHanded_of_change (C := Try.checked) own started (by kernel_rfl) Try.func10
    (ChangeSpec.witness6 (enc := enc) (C := Try.checked) false ⟨#[], #[.agg #[.int .i64 0, .slice none 0 0], .int .i64 0, .slice none 0 0, .slice none 0 0], []⟩ 8 (by kernel_rfl) (by kernel_rfl) (by kernel_rfl) (by kernel_rfl)) ?_
  intro W base args ds gs before hval0 hW hcnd _
  have hval : ∀ (j : Nat) t v, Try.f10.params[j]? = some t → args[j]? = some v → Value.okWide Try.prog W .any base t v := hval0
  have hW' := hW
  obtain ⟨p, q, hA0, hV, rfl, hfz, hnd⟩ := hW
  have hA : DataW.TrodAll enc Try.prog W 0 (fun _ => true) true Try.f10.params.toList args.toList ds p := hA0
  rw [Try.params10] at hA hval
  obtain ⟨v0, vs0, d0, ds0, p0, q0, hargs, rfl, rfl, h0, r0⟩ := trodAll_cons hA
  obtain ⟨v1, vs1, d1, ds1, p1, q1, rfl, rfl, rfl, h1, r1⟩ := trodAll_cons r0
  obtain ⟨v2, vs2, d2, ds2, p2, q2, rfl, rfl, rfl, h2, r2⟩ := trodAll_cons r1
  obtain ⟨v3, vs3, d3, ds3, p3, q3, rfl, rfl, rfl, h3, r3⟩ := trodAll_cons r2
  obtain ⟨rfl, rfl, rfl⟩ := trodAll_nil r3
  obtain rfl : args = #[v0, v1, v2, v3] := by cases args; simp_all
  obtain ⟨rfl, rfl⟩ := trodVars_none hV
  have k0 := h0
  have lt0 : ∀ x ∈ p0, x.block < W.heap.size := by obtain ⟨m, hm⟩ := k0; exact DataW.trod_lt m _ _ _ hm
  obtain ⟨e0_0, e0_1, y0_0, y0_1, fu0, rfl, _, _, hy0_0, hy0_1⟩ := open_agg2 Try.underlying24 (by kernel_rfl) (by kernel_rfl) (hval 0 24 v0 rfl rfl) h0
  obtain ⟨J, hc0_0, _, wJ⟩ := DataW.trod_int Try.underlying2 hy0_0
  simp only [List.cons.injEq, and_true] at hc0_0
  subst hc0_0
  obtain ⟨Ads, nds, ds, cds, hc0_1, lfds, rds, mds⟩ := open_ditches Try.underlying22 Try.underlying35 (by kernel_rfl) (by kernel_rfl) Try.underlying2 Try.underlying2 Try.underlying2 hy0_1
  simp only [List.cons.injEq, and_true] at hc0_1
  subst hc0_1
  have k1 := h1
  have lt1 : ∀ x ∈ p1, x.block < W.heap.size := by obtain ⟨m, hm⟩ := k1; exact DataW.trod_lt m _ _ _ hm
  obtain ⟨s, rfl, _, _, ws⟩ := open_int Try.underlying2 (hval 1 2 v1 rfl rfl) h1
  have k2 := h2
  have lt2 : ∀ x ∈ p2, x.block < W.heap.size := by obtain ⟨m, hm⟩ := k2; exact DataW.trod_lt m _ _ _ hm
  obtain ⟨a2, l2, cc2, rfl⟩ := okWide_slice Try.underlying44 (hval 2 44 v2 rfl rfl)
  obtain ⟨fuel2, hf2⟩ := h2
  obtain ⟨Afs, fs, cfs, hcs2, rfs, mfs⟩ := open_list Try.underlying44 Try.underlying2 (by kernel_rfl) hf2
  simp [Value.cells] at hcs2
  obtain ⟨rfl, rfl, rfl⟩ := hcs2
  have k3 := h3
  have lt3 : ∀ x ∈ p3, x.block < W.heap.size := by obtain ⟨m, hm⟩ := k3; exact DataW.trod_lt m _ _ _ hm
  obtain ⟨a3, l3, cc3, rfl⟩ := okWide_slice Try.underlying44 (hval 3 44 v3 rfl rfl)
  obtain ⟨fuel3, hf3⟩ := h3
  obtain ⟨Ass, ss, css, hcs3, rss, mss⟩ := open_list Try.underlying44 Try.underlying2 (by kernel_rfl) hf3
  simp [Value.cells] at hcs3
  obtain ⟨rfl, rfl, rfl⟩ := hcs3
  refine (walk J Ads nds ds cds s a2 fs cc2 a3 ss cc3 W wJ lfds rds mds ws rfs mfs rss mss).mono fun e W' ⟨he, bel⟩ => ?_
  subst he
  exact ⟨_, rfl, _, _, _, [], _, [], hW', trodAll_mk1 (shut_bool Try.underlying4 _), (trodAll_cons_mk (Below.trod laidOut (by kernel_rfl) (of_decide_eq_true (by kernel_rfl)) k0 bel lt0) (trodAll_cons_mk (Below.trod laidOut (by kernel_rfl) (of_decide_eq_true (by kernel_rfl)) k1 bel lt1) (trodAll_cons_mk (Below.trod laidOut (by kernel_rfl) (of_decide_eq_true (by kernel_rfl)) k2 bel lt2) (trodAll_cons_mk (Below.trod laidOut (by kernel_rfl) (of_decide_eq_true (by kernel_rfl)) k3 bel lt3) trodAll_mk0)))), rfl, bel.frame _, fun h => by cases h⟩
theorem over : Rows.fnExactFlowProofRow.holds Try.pinned (OpenSpec.ofChange Rows.fnExactFlowProofSpec) :=
  OpenClaim.holds_of_wide 10 Try.f10 rfl rfl rfl rfl rfl rfl rfl ⟨rfl, rfl, rfl, rfl, rfl⟩ rfl rfl rfl rfl rfl (by kernel_rfl) Try.func10 (by kernel_rfl)
    (of_decide_eq_true (by kernel_rfl)) (by unfold Func.isWrapper; first | (rw [if_pos (by decide +kernel)]; kernel_rfl) | (rw [if_neg (by decide +kernel)]; exact ⟨rfl, rfl⟩))
    (fun os started H enc _ => lifted os started H enc)
/-- the statement -/
theorem proved : Rows.FnExactFlowProofSaid := over
#print axioms proved
end Go.Proofs.Ythgdiddgooippaa.fnExactFlowProof
