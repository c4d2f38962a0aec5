/-
  The law 'FnExactReachedFrom' holds for every input: the junctions that can be reached are the reference's. No condition.
  The frame follows the kit's template for such a statement; the walk is ours.
-/
import Derived.Test.YtcgnnlgakfndaaaRows
import Derived.Test.YtcgnnlgakfndaaaOnly
import Derived.Test.YtcgnnlgakfndaaaReachS
import Derived.Test.YtcgnnlgakfndaaaReachI
import Derived.Test.YtcgnnlgakfndaaaOpenNet
import Derived.Lib.SmallJoins
import Derived.Deep.RegionHeld3
namespace Go.Proofs.Ytcgnnlgakfndaaa.fnExactReachedFrom
open Go.ChangeShapes Go.WideShapes Go.ChangeAt Go.RowKit Go.Joins
open Go.ChangeMaps (open_string shut_string)
set_option linter.unusedVariables false
set_option maxHeartbeats 4000000 in
theorem walk (J : Int) (Ads : Option Addr) (nds : Nat) (ds : List Int) (cds : Nat) (s : Int) (w : World) (wJ : (Lit.int .i64 J).wf = true) (lfds : ds.length = nds * 3) (rds : RC w Ads (ints ds)) (mds : nds ≤ 9223372036854775807) (ws : (Lit.int .i64 s).wf = true) :
    Calls Try.prog 6 #[.agg #[.int .i64 J, .slice Ads nds cds], .int .i64 s] w fun e w' => e = .returned (.bool true) ∧ Below w.heap.size w w' := by
  clear wJ ws
  have LFds := Lib.hid lfds
  clear lfds
  by_cases hz0 : nds ≤ 1048576
  rotate_left
  · go_enter Try.func6, Try.ntmps6
    go_wp2_with fail
    refine (szNet_no _ _ _ _ _ _ (by omega) (by omega) (by omega) mds).mono ?_
    rintro e w1 ⟨rfl, b1⟩
    go_wp2
    go_ret
    exact ⟨rfl, by repeat (first | exact Below.refl _ _ | assumption | apply bl_alloc | apply bl_drewN | apply Below.drew | (refine bl_set ?_ (by first | exact Nat.le_refl _ | (simp; done) | (simp; omega)) _) | (refine bl_trans ?_ (by assumption)))⟩
  have hmds : nds ≤ 1048576 := by omega
  go_enter Try.func6, Try.ntmps6
  go_wp2_with fail
  refine (szNet_yes _ _ _ _ _ _ (by omega) (by omega)).mono ?_
  rintro e w1 ⟨rfl, b1⟩
  have s1 : Below w.heap.size w w1 := (by repeat (first | exact Below.refl _ _ | assumption | apply bl_alloc | apply bl_drewN | apply Below.drew | (refine bl_set ?_ (by first | exact Nat.le_refl _ | (simp; done) | (simp; omega)) _) | (refine bl_trans ?_ (by assumption))))
  have z1 := s1.size
  have t1 : Below w.heap.size w w1 := s1
  have kp : w1.heap[w.heap.size]? = some (.cells #[.int .i64 J, .slice Ads nds cds] 49 (0, 0)) := keep_blk (hb := b1) (h := by repeat (first | (refine blk_new ?_; (first | rfl | (simp; done) | (simp; omega))) | refine blk_drewN ?_ | refine blk_drew ?_ | refine blk_old ?_))
  have vkp := blk_lt kp
  obtain ⟨kp0, kp1, kpl⟩ := row_two kp
  go_wp2_with fail
  refine (toNet_any _ _ _ _ _ _ (rds.below (by repeat (first | exact Below.refl _ _ | assumption | apply bl_alloc | apply bl_drewN | apply Below.drew | (refine bl_set ?_ (by first | exact Nat.le_refl _ | (simp; done) | (simp; omega)) _) | (refine bl_trans ?_ (by assumption))))) LFds.out hmds).mono ?_
  rintro e w2 ⟨_, _, rfl, o2, b2, g2, rfl, rfl⟩
  have s2 : Below w1.heap.size w1 w2 := (by repeat (first | exact Below.refl _ _ | assumption | apply bl_alloc | apply bl_drewN | apply Below.drew | (refine bl_set ?_ (by first | exact Nat.le_refl _ | (simp; done) | (simp; omega)) _) | (refine bl_trans ?_ (by assumption))))
  have z2 := s2.size
  have t2 : Below w.heap.size w w2 := t1.trans (s2.mono (by omega))
  replace kp : w2.heap[w.heap.size]? = some (.cells #[.int .i64 J, .slice Ads nds cds] 49 (0, 0)) := keep_blk (hb := s2) (h := kp)
  clear kp0 kp1 kpl
  obtain ⟨kp0, kp1, kpl⟩ := row_two kp
  replace o2 := o2.wide (B' := w1.heap.size) (E' := w2.heap.size) (Below.size (B := w1.heap.size) (by repeat (first | exact Below.refl _ _ | assumption | apply bl_alloc | apply bl_drewN | apply Below.drew | (refine bl_set ?_ (by first | exact Nat.le_refl _ | (simp; done) | (simp; omega)) _) | (refine bl_trans ?_ (by assumption))))) (Nat.le_refl _)
  go_wp2_with fail
  refine (specReached _ J s _ nds _ ds ((o2.below (Below.mono (B := w2.heap.size) (by repeat (first | exact Below.refl _ _ | assumption | apply bl_alloc | apply bl_drewN | apply Below.drew | (refine bl_set ?_ (by first | exact Nat.le_refl _ | (simp; done) | (simp; omega)) _) | (refine bl_trans ?_ (by assumption)))) (by omega))).rc) LFds.out hmds).mono ?_
  rintro e w3 ⟨X3, c3, rfl, o3, b3⟩
  have s3 : Below w2.heap.size w2 w3 := (by repeat (first | exact Below.refl _ _ | assumption | apply bl_alloc | apply bl_drewN | apply Below.drew | (refine bl_set ?_ (by first | exact Nat.le_refl _ | (simp; done) | (simp; omega)) _) | (refine bl_trans ?_ (by assumption))))
  have z3 := s3.size
  have t3 : Below w.heap.size w w3 := t2.trans (s3.mono (by omega))
  replace o2 := o2.below (s3.mono (by omega))
  replace kp : w3.heap[w.heap.size]? = some (.cells #[.int .i64 J, .slice Ads nds cds] 49 (0, 0)) := keep_blk (hb := s3) (h := kp)
  clear kp0 kp1 kpl
  obtain ⟨kp0, kp1, kpl⟩ := row_two kp
  replace o3 := o3.wide (B' := w2.heap.size) (E' := w3.heap.size) (Below.size (B := w2.heap.size) (by repeat (first | exact Below.refl _ _ | assumption | apply bl_alloc | apply bl_drewN | apply Below.drew | (refine bl_set ?_ (by first | exact Nat.le_refl _ | (simp; done) | (simp; omega)) _) | (refine bl_trans ?_ (by assumption))))) (Nat.le_refl _)
  clear o2
  go_wp2_with fail
  refine (toNet_any _ _ _ _ _ _ (rds.below (by repeat (first | exact Below.refl _ _ | assumption | apply bl_alloc | apply bl_drewN | apply Below.drew | (refine bl_set ?_ (by first | exact Nat.le_refl _ | (simp; done) | (simp; omega)) _) | (refine bl_trans ?_ (by assumption))))) LFds.out hmds).mono ?_
  rintro e w4 ⟨_, _, rfl, o4, b4, g4, rfl, rfl⟩
  have s4 : Below w3.heap.size w3 w4 := (by repeat (first | exact Below.refl _ _ | assumption | apply bl_alloc | apply bl_drewN | apply Below.drew | (refine bl_set ?_ (by first | exact Nat.le_refl _ | (simp; done) | (simp; omega)) _) | (refine bl_trans ?_ (by assumption))))
  have z4 := s4.size
  have t4 : Below w.heap.size w w4 := t3.trans (s4.mono (by omega))
  replace o3 := o3.below (s4.mono (by omega))
  replace kp : w4.heap[w.heap.size]? = some (.cells #[.int .i64 J, .slice Ads nds cds] 49 (0, 0)) := keep_blk (hb := s4) (h := kp)
  clear kp0 kp1 kpl
  obtain ⟨kp0, kp1, kpl⟩ := row_two kp
  replace o4 := o4.wide (B' := w3.heap.size) (E' := w4.heap.size) (Below.size (B := w3.heap.size) (by repeat (first | exact Below.refl _ _ | assumption | apply bl_alloc | apply bl_drewN | apply Below.drew | (refine bl_set ?_ (by first | exact Nat.le_refl _ | (simp; done) | (simp; omega)) _) | (refine bl_trans ?_ (by assumption))))) (Nat.le_refl _)
  go_wp2_with fail
  refine (implReached _ J s _ nds _ ds ((o4.below (Below.mono (B := w4.heap.size) (by repeat (first | exact Below.refl _ _ | assumption | apply bl_alloc | apply bl_drewN | apply Below.drew | (refine bl_set ?_ (by first | exact Nat.le_refl _ | (simp; done) | (simp; omega)) _) | (refine bl_trans ?_ (by assumption)))) (by omega))).rc) LFds.out hmds).mono ?_
  rintro e w5 ⟨X5, c5, rfl, o5, b5⟩
  have s5 : Below w4.heap.size w4 w5 := (by repeat (first | exact Below.refl _ _ | assumption | apply bl_alloc | apply bl_drewN | apply Below.drew | (refine bl_set ?_ (by first | exact Nat.le_refl _ | (simp; done) | (simp; omega)) _) | (refine bl_trans ?_ (by assumption))))
  have z5 := s5.size
  have t5 : Below w.heap.size w w5 := t4.trans (s5.mono (by omega))
  replace o3 := o3.below (s5.mono (by omega))
  replace o4 := o4.below (s5.mono (by omega))
  replace kp : w5.heap[w.heap.size]? = some (.cells #[.int .i64 J, .slice Ads nds cds] 49 (0, 0)) := keep_blk (hb := s5) (h := kp)
  clear kp0 kp1 kpl
  obtain ⟨kp0, kp1, kpl⟩ := row_two kp
  have kx : w5.heap[w4.heap.size]? = some (.cells #[.int .i64 J, .slice (some ⟨g4, 0, none⟩) nds nds] 55 (0, 0)) := keep_blk (hb := b5) (h := by repeat (first | (refine blk_new ?_; (first | rfl | (simp; done) | (simp; omega))) | refine blk_drewN ?_ | refine blk_drew ?_ | refine blk_old ?_))
  have vkx := blk_lt kx
  obtain ⟨kx0, kx1, kxl⟩ := row_two kx
  replace o5 := o5.wide (B' := (w4.heap.size + 1)) (E' := w5.heap.size) (by first | exact Nat.le_refl _ | (simp; done) | (simp; omega)) (Nat.le_refl _)
  go_wp2_with fail
  refine (eqInts _ _ _ _ _ _ ((o5.below (Below.mono (B := w5.heap.size) (by repeat (first | exact Below.refl _ _ | assumption | apply bl_alloc | apply bl_drewN | apply Below.drew | (refine bl_set ?_ (by first | exact Nat.le_refl _ | (simp; done) | (simp; omega)) _) | (refine bl_trans ?_ (by assumption)))) (by omega))).rc) ((o3.below (Below.mono (B := w5.heap.size) (by repeat (first | exact Below.refl _ _ | assumption | apply bl_alloc | apply bl_drewN | apply Below.drew | (refine bl_set ?_ (by first | exact Nat.le_refl _ | (simp; done) | (simp; omega)) _) | (refine bl_trans ?_ (by assumption)))) (by omega))).rc) (Nat.le_trans (reL_len J nds ds s) (by decide))).mono ?_
  rintro e w' ⟨rfl, dd5_60, rfl⟩
  go_wp2_with fail
  go_region_held3 (fun w' => w'.cell? ⟨w4.heap.size, 0, none⟩ = some (.int .i64 J) ∧ w'.cell? ⟨w4.heap.size, 1, none⟩ = some (.slice (some ⟨g4, 0, none⟩) nds nds) ∧ w'.cell? ⟨w.heap.size, 0, none⟩ = some (.int .i64 J) ∧ w'.cell? ⟨w.heap.size, 1, none⟩ = some (.slice Ads nds cds)) (((try dsimp only); refine ⟨?_, ?_, ?_, ?_⟩ <;> (repeat (first | with_reducible assumption | with_reducible refine kc_drew ?_ | with_reducible refine kc_drewN ?_ | with_reducible refine kc_alloc ?_ | with_reducible refine kc_set ?_ (by first | omega | (simp; done) | (simp; omega)))))) (first | (go_at_call 26; refine (toNet_any _ _ _ _ _ _ (rds.below (by repeat (first | exact Below.refl _ _ | assumption | apply bl_alloc | apply bl_drewN | apply Below.drew | (refine bl_set ?_ (by first | exact Nat.le_refl _ | (simp; done) | (simp; omega)) _) | (refine bl_trans ?_ (by assumption))))) LFds.out hmds).mono ?_; rintro e w6 ⟨_, _, rfl, o6, b6, g6, rfl, rfl⟩; have s6 : Below w5.heap.size w5 w6 := (by repeat (first | exact Below.refl _ _ | assumption | apply bl_alloc | apply bl_drewN | apply Below.drew | (refine bl_set ?_ (by first | exact Nat.le_refl _ | (simp; done) | (simp; omega)) _) | (refine bl_trans ?_ (by assumption)))); have z6 := s6.size; have t6 : Below w.heap.size w w6 := t5.trans (s6.mono (by omega)); replace o3 := o3.below (s6.mono (by omega)); replace o4 := o4.below (s6.mono (by omega)); replace o5 := o5.below (s6.mono (by omega)); replace kp : w6.heap[w.heap.size]? = some (.cells #[.int .i64 J, .slice Ads nds cds] 49 (0, 0)) := keep_blk (hb := s6) (h := kp); clear kp0 kp1 kpl; obtain ⟨kp0, kp1, kpl⟩ := row_two kp; replace kx : w6.heap[w4.heap.size]? = some (.cells #[.int .i64 J, .slice (some ⟨g4, 0, none⟩) nds nds] 55 (0, 0)) := keep_blk (hb := s6) (h := kx); clear kx0 kx1 kxl; obtain ⟨kx0, kx1, kxl⟩ := row_two kx; replace o6 := o6.wide (B' := w5.heap.size) (E' := w6.heap.size) (Below.size (B := w5.heap.size) (by repeat (first | exact Below.refl _ _ | assumption | apply bl_alloc | apply bl_drewN | apply Below.drew | (refine bl_set ?_ (by first | exact Nat.le_refl _ | (simp; done) | (simp; omega)) _) | (refine bl_trans ?_ (by assumption))))) (Nat.le_refl _)) | (go_at_call 28; refine (eqNet_any _ _ _ _ _ _ _ _ ((o4.below (Below.mono (B := w6.heap.size) (by repeat (first | exact Below.refl _ _ | assumption | apply bl_alloc | apply bl_drewN | apply Below.drew | (refine bl_set ?_ (by first | exact Nat.le_refl _ | (simp; done) | (simp; omega)) _) | (refine bl_trans ?_ (by assumption)))) (by omega))).rc) ((o6.below (Below.mono (B := w6.heap.size) (by repeat (first | exact Below.refl _ _ | assumption | apply bl_alloc | apply bl_drewN | apply Below.drew | (refine bl_set ?_ (by first | exact Nat.le_refl _ | (simp; done) | (simp; omega)) _) | (refine bl_trans ?_ (by assumption)))) (by omega))).rc) LFds.out hmds).mono ?_; rintro e w7 ⟨rfl, b7⟩; have s7 : Below w6.heap.size w6 w7 := (by repeat (first | exact Below.refl _ _ | assumption | apply bl_alloc | apply bl_drewN | apply Below.drew | (refine bl_set ?_ (by first | exact Nat.le_refl _ | (simp; done) | (simp; omega)) _) | (refine bl_trans ?_ (by assumption)))); have z7 := s7.size; have t7 : Below w.heap.size w w7 := t6.trans (s7.mono (by omega)); replace o3 := o3.below (s7.mono (by omega)); replace o4 := o4.below (s7.mono (by omega)); replace o5 := o5.below (s7.mono (by omega)); replace o6 := o6.below (s7.mono (by omega)); replace kp : w7.heap[w.heap.size]? = some (.cells #[.int .i64 J, .slice Ads nds cds] 49 (0, 0)) := keep_blk (hb := s7) (h := kp); clear kp0 kp1 kpl; obtain ⟨kp0, kp1, kpl⟩ := row_two kp; replace kx : w7.heap[w4.heap.size]? = some (.cells #[.int .i64 J, .slice (some ⟨g4, 0, none⟩) nds nds] 55 (0, 0)) := keep_blk (hb := s7) (h := kx); clear kx0 kx1 kxl; obtain ⟨kx0, kx1, kxl⟩ := row_two kx))
  clear o6
  go_wp2_with fail
  refine (markNet_any _ _ _ _ _ _ _ _ _ (o4.below (Below.mono (B := w7.heap.size) (by repeat (first | exact Below.refl _ _ | assumption | apply bl_alloc | apply bl_drewN | apply Below.drew | (refine bl_set ?_ (by first | exact Nat.le_refl _ | (simp; done) | (simp; omega)) _) | (refine bl_trans ?_ (by assumption)))) (by omega))) ((ints_len _).trans LFds.out) hmds (by omega) (by omega)).mono ?_
  rintro e w8 ⟨rfl, q8, m8⟩
  have Q8 : OnlyR w3.heap.size w4.heap.size w7 w8 := OnlyR.pre (by repeat (first | exact Below.refl _ _ | assumption | apply bl_alloc | apply bl_drewN | apply Below.drew | (refine bl_set ?_ (by first | exact Nat.le_refl _ | (simp; done) | (simp; omega)) _) | (refine bl_trans ?_ (by assumption)))) q8
  have z8 := Q8.size
  have t8 : Below w.heap.size w w8 := t7.trans (Q8.below (by omega) (by omega))
  replace o3 := o3.onlyR Q8 (by omega)
  replace o5 := o5.onlyR Q8 (by omega)
  replace kp : w8.heap[w.heap.size]? = some (.cells #[.int .i64 J, .slice Ads nds cds] 49 (0, 0)) := keep_onlyR kp Q8 (by first | omega | (simp; omega))
  clear kp0 kp1 kpl
  obtain ⟨kp0, kp1, kpl⟩ := row_two kp
  replace kx : w8.heap[w4.heap.size]? = some (.cells #[.int .i64 J, .slice (some ⟨g4, 0, none⟩) nds nds] 55 (0, 0)) := keep_onlyR kx Q8 (by first | omega | (simp; omega))
  clear kx0 kx1 kxl
  obtain ⟨kx0, kx1, kxl⟩ := row_two kx
  clear o4
  go_wp2_with fail
  refine (eqInts _ _ _ _ _ _ ((o5.below (Below.mono (B := w8.heap.size) (by repeat (first | exact Below.refl _ _ | assumption | apply bl_alloc | apply bl_drewN | apply Below.drew | (refine bl_set ?_ (by first | exact Nat.le_refl _ | (simp; done) | (simp; omega)) _) | (refine bl_trans ?_ (by assumption)))) (by omega))).rc) ((o3.below (Below.mono (B := w8.heap.size) (by repeat (first | exact Below.refl _ _ | assumption | apply bl_alloc | apply bl_drewN | apply Below.drew | (refine bl_set ?_ (by first | exact Nat.le_refl _ | (simp; done) | (simp; omega)) _) | (refine bl_trans ?_ (by assumption)))) (by omega))).rc) (Nat.le_trans (reL_len J nds ds s) (by decide))).mono ?_
  rintro e w' ⟨rfl, dd8_81, rfl⟩
  go_wp2_with fail
  refine (markInts _ _ _ _ _ _ _ _ (o5.below (Below.mono (B := w8.heap.size) (by repeat (first | exact Below.refl _ _ | assumption | apply bl_alloc | apply bl_drewN | apply Below.drew | (refine bl_set ?_ (by first | exact Nat.le_refl _ | (simp; done) | (simp; omega)) _) | (refine bl_trans ?_ (by assumption)))) (by omega))) (ints_len _) (Nat.le_trans (reL_len J nds ds s) (by decide)) (by omega) (by omega)).mono ?_
  rintro e w9 ⟨rfl, q9, m9⟩
  have Q9 : OnlyR (w4.heap.size + 1) w5.heap.size w8 w9 := OnlyR.pre (by repeat (first | exact Below.refl _ _ | assumption | apply bl_alloc | apply bl_drewN | apply Below.drew | (refine bl_set ?_ (by first | exact Nat.le_refl _ | (simp; done) | (simp; omega)) _) | (refine bl_trans ?_ (by assumption)))) (q9.r (o5.below (Below.mono (B := w8.heap.size) (by repeat (first | exact Below.refl _ _ | assumption | apply bl_alloc | apply bl_drewN | apply Below.drew | (refine bl_set ?_ (by first | exact Nat.le_refl _ | (simp; done) | (simp; omega)) _) | (refine bl_trans ?_ (by assumption)))) (by omega))) (Nat.le_of_eq (ints_len _).symm))
  have z9 := Q9.size
  have t9 : Below w.heap.size w w9 := t8.trans (Q9.below (by omega) (by omega))
  replace o3 := o3.onlyR Q9 (by omega)
  replace m8 := m8.onlyR Q9 (by omega)
  replace kp : w9.heap[w.heap.size]? = some (.cells #[.int .i64 J, .slice Ads nds cds] 49 (0, 0)) := keep_onlyR kp Q9 (by first | omega | (simp; omega))
  clear kp0 kp1 kpl
  obtain ⟨kp0, kp1, kpl⟩ := row_two kp
  replace kx : w9.heap[w4.heap.size]? = some (.cells #[.int .i64 J, .slice (some ⟨g4, 0, none⟩) nds nds] 55 (0, 0)) := keep_onlyR kx Q9 (by first | omega | (simp; omega))
  clear kx0 kx1 kxl
  obtain ⟨kx0, kx1, kxl⟩ := row_two kx
  clear o5
  go_wp2_with fail
  refine (heldInts _ _ _ _ _ ((m9.below (Below.mono (B := w9.heap.size) (by repeat (first | exact Below.refl _ _ | assumption | apply bl_alloc | apply bl_drewN | apply Below.drew | (refine bl_set ?_ (by first | exact Nat.le_refl _ | (simp; done) | (simp; omega)) _) | (refine bl_trans ?_ (by assumption)))) (by omega))).rc) (Nat.le_trans (reL_len J nds ds s) (by decide)) (by omega) (by omega)).mono ?_
  rintro e w' ⟨rfl, rfl⟩
  clear m8
  go_wp2_with fail
  refine (toNet_any _ _ _ _ _ _ (rds.below (by repeat (first | exact Below.refl _ _ | assumption | apply bl_alloc | apply bl_drewN | apply Below.drew | (refine bl_set ?_ (by first | exact Nat.le_refl _ | (simp; done) | (simp; omega)) _) | (refine bl_trans ?_ (by assumption))))) LFds.out hmds).mono ?_
  rintro e w10 ⟨_, _, rfl, o10, b10, g10, rfl, rfl⟩
  have s10 : Below w9.heap.size w9 w10 := (by repeat (first | exact Below.refl _ _ | assumption | apply bl_alloc | apply bl_drewN | apply Below.drew | (refine bl_set ?_ (by first | exact Nat.le_refl _ | (simp; done) | (simp; omega)) _) | (refine bl_trans ?_ (by assumption))))
  have z10 := s10.size
  have t10 : Below w.heap.size w w10 := t9.trans (s10.mono (by omega))
  replace o3 := o3.below (s10.mono (by omega))
  replace m9 := m9.below (s10.mono (by omega))
  replace kp : w10.heap[w.heap.size]? = some (.cells #[.int .i64 J, .slice Ads nds cds] 49 (0, 0)) := keep_blk (hb := s10) (h := kp)
  clear kp0 kp1 kpl
  obtain ⟨kp0, kp1, kpl⟩ := row_two kp
  replace o10 := o10.wide (B' := w9.heap.size) (E' := w10.heap.size) (Below.size (B := w9.heap.size) (by repeat (first | exact Below.refl _ _ | assumption | apply bl_alloc | apply bl_drewN | apply Below.drew | (refine bl_set ?_ (by first | exact Nat.le_refl _ | (simp; done) | (simp; omega)) _) | (refine bl_trans ?_ (by assumption))))) (Nat.le_refl _)
  go_wp2_with fail
  refine (implReached _ J s _ nds _ ds ((o10.below (Below.mono (B := w10.heap.size) (by repeat (first | exact Below.refl _ _ | assumption | apply bl_alloc | apply bl_drewN | apply Below.drew | (refine bl_set ?_ (by first | exact Nat.le_refl _ | (simp; done) | (simp; omega)) _) | (refine bl_trans ?_ (by assumption)))) (by omega))).rc) LFds.out hmds).mono ?_
  rintro e w11 ⟨X11, c11, rfl, o11, b11⟩
  have s11 : Below w10.heap.size w10 w11 := (by repeat (first | exact Below.refl _ _ | assumption | apply bl_alloc | apply bl_drewN | apply Below.drew | (refine bl_set ?_ (by first | exact Nat.le_refl _ | (simp; done) | (simp; omega)) _) | (refine bl_trans ?_ (by assumption))))
  have z11 := s11.size
  have t11 : Below w.heap.size w w11 := t10.trans (s11.mono (by omega))
  replace o3 := o3.below (s11.mono (by omega))
  replace m9 := m9.below (s11.mono (by omega))
  replace o10 := o10.below (s11.mono (by omega))
  replace kp : w11.heap[w.heap.size]? = some (.cells #[.int .i64 J, .slice Ads nds cds] 49 (0, 0)) := keep_blk (hb := s11) (h := kp)
  clear kp0 kp1 kpl
  obtain ⟨kp0, kp1, kpl⟩ := row_two kp
  replace o11 := o11.wide (B' := w10.heap.size) (E' := w11.heap.size) (Below.size (B := w10.heap.size) (by repeat (first | exact Below.refl _ _ | assumption | apply bl_alloc | apply bl_drewN | apply Below.drew | (refine bl_set ?_ (by first | exact Nat.le_refl _ | (simp; done) | (simp; omega)) _) | (refine bl_trans ?_ (by assumption))))) (Nat.le_refl _)
  clear o10
  go_wp2_with fail
  refine (eqInts _ _ _ _ _ _ ((o11.below (Below.mono (B := w11.heap.size) (by repeat (first | exact Below.refl _ _ | assumption | apply bl_alloc | apply bl_drewN | apply Below.drew | (refine bl_set ?_ (by first | exact Nat.le_refl _ | (simp; done) | (simp; omega)) _) | (refine bl_trans ?_ (by assumption)))) (by omega))).rc) ((o3.below (Below.mono (B := w11.heap.size) (by repeat (first | exact Below.refl _ _ | assumption | apply bl_alloc | apply bl_drewN | apply Below.drew | (refine bl_set ?_ (by first | exact Nat.le_refl _ | (simp; done) | (simp; omega)) _) | (refine bl_trans ?_ (by assumption)))) (by omega))).rc) (Nat.le_trans (reL_len J nds ds s) (by decide))).mono ?_
  rintro e w' ⟨rfl, dd11_129, rfl⟩
  go_wp2_with fail
  refine (heldInts _ _ _ _ _ ((m9.below (Below.mono (B := w11.heap.size) (by repeat (first | exact Below.refl _ _ | assumption | apply bl_alloc | apply bl_drewN | apply Below.drew | (refine bl_set ?_ (by first | exact Nat.le_refl _ | (simp; done) | (simp; omega)) _) | (refine bl_trans ?_ (by assumption)))) (by omega))).rc) (Nat.le_trans (reL_len J nds ds s) (by decide)) (by omega) (by omega)).mono ?_
  rintro e w' ⟨rfl, rfl⟩
  go_wp2
  go_ret
  exact ⟨rfl, by repeat (first | exact Below.refl _ _ | assumption | apply bl_alloc | apply bl_drewN | apply Below.drew | (refine bl_set ?_ (by first | exact Nat.le_refl _ | (simp; done) | (simp; omega)) _) | (refine bl_trans ?_ (by assumption)))⟩

theorem own : ownKnob Try.prog.godebug = none := by kernel_rfl
theorem laidOut : laidOutB Try.prog = true := by kernel_rfl
set_option maxRecDepth 100000 in
theorem lifted (os : Os) (started : os.Started) (H : Type) (enc : TypeId × Value → H) :
    ReturnsInHanded {} Try.checked os 6 .any (Rows.fnExactReachedFromSpec.pre6 enc Try.prog Try.f6 Rows.fnExactReachedFromRow.domain false) (Rows.fnExactReachedFromSpec.post enc Try.prog Try.f6 false true false false) := by
  refine returnsInHanded_of_change (C := Try.checked) own started (by kernel_rfl) Try.func6
    (ChangeSpec.witness6 (enc := enc) (C := Try.checked) false ⟨#[], #[.agg #[.int .i64 0, .slice none 0 0], .int .i64 0], []⟩ 8 (by kernel_rfl) (by kernel_rfl) (by kernel_rfl) (by kernel_rfl)) ?_
  intro W base args ds gs before hval0 hW hcnd _
  have hval : ∀ (j : Nat) t v, Try.f6.params[j]? = some t → args[j]? = some v → Value.okWide Try.prog W .any base t v := hval0
  have hW' := hW
  obtain ⟨p, q, hA0, hV, rfl, hfz, hnd⟩ := hW
  have hA : DataW.TrodAll enc Try.prog W 0 (fun _ => true) true Try.f6.params.toList args.toList ds p := hA0
  rw [Try.params6] at hA hval
  obtain ⟨v0, vs0, d0, ds0, p0, q0, hargs, rfl, rfl, h0, r0⟩ := trodAll_cons hA
  obtain ⟨v1, vs1, d1, ds1, p1, q1, rfl, rfl, rfl, h1, r1⟩ := trodAll_cons r0
  obtain ⟨rfl, rfl, rfl⟩ := trodAll_nil r1
  obtain rfl : args = #[v0, v1] := by cases args; simp_all
  obtain ⟨rfl, rfl⟩ := trodVars_none hV
  have k0 := h0
  have lt0 : ∀ x ∈ p0, x.block < W.heap.size := by obtain ⟨m, hm⟩ := k0; exact DataW.trod_lt m _ _ _ hm
  obtain ⟨e0_0, e0_1, y0_0, y0_1, fu0, rfl, _, _, hy0_0, hy0_1⟩ := open_agg2 Try.underlying49 (by kernel_rfl) (by kernel_rfl) (hval 0 49 v0 rfl rfl) h0
  obtain ⟨J, hc0_0, _, wJ⟩ := DataW.trod_int Try.underlying2 hy0_0
  simp only [List.cons.injEq, and_true] at hc0_0
  subst hc0_0
  obtain ⟨Ads, nds, ds, cds, hc0_1, lfds, rds, mds⟩ := open_ditches Try.underlying47 Try.underlying103 (by kernel_rfl) (by kernel_rfl) Try.underlying2 Try.underlying2 Try.underlying2 hy0_1
  simp only [List.cons.injEq, and_true] at hc0_1
  subst hc0_1
  have k1 := h1
  have lt1 : ∀ x ∈ p1, x.block < W.heap.size := by obtain ⟨m, hm⟩ := k1; exact DataW.trod_lt m _ _ _ hm
  obtain ⟨s, rfl, _, _, ws⟩ := open_int Try.underlying2 (hval 1 2 v1 rfl rfl) h1
  refine (walk J Ads nds ds cds s W wJ lfds rds mds ws).mono fun e W' ⟨he, bel⟩ => ?_
  subst he
  exact ⟨_, rfl, _, _, _, [], _, [], hW', trodAll_mk1 (shut_bool Try.underlying4 _), (trodAll_cons_mk (Below.trod laidOut (by kernel_rfl) (of_decide_eq_true (by kernel_rfl)) k0 bel lt0) (trodAll_cons_mk (Below.trod laidOut (by kernel_rfl) (of_decide_eq_true (by kernel_rfl)) k1 bel lt1) trodAll_mk0)), rfl, bel.frame _, fun h => by cases h⟩
theorem over : Rows.fnExactReachedFromRow.holds Try.pinned (OpenSpec.ofChange Rows.fnExactReachedFromSpec) :=
  OpenClaim.holds_of_wide 6 Try.f6 rfl rfl rfl rfl rfl rfl rfl ⟨rfl, rfl, rfl, rfl, rfl⟩ rfl rfl rfl rfl rfl (by kernel_rfl) Try.func6 (by kernel_rfl)
    (of_decide_eq_true (by kernel_rfl)) (by unfold Func.isWrapper; first | (rw [if_pos (by decide +kernel)]; kernel_rfl) | (rw [if_neg (by decide +kernel)]; exact ⟨rfl, rfl⟩))
    (fun os started H enc _ => lifted os started H enc)
/-- the statement -/
theorem proved : Rows.FnExactReachedFromSaid := over
#print axioms proved
end Go.Proofs.Ytcgnnlgakfndaaa.fnExactReachedFrom
