/-
  The law 'FnExactAddDitch' holds for every input: the net with one more ditch is the reference's. No condition.
  The frame follows the kit's template for such a statement; the walk is ours.
-/
import Derived.Test.YthgdiddgooippaaRows
import Derived.Test.YthgdiddgooippaaOnly
import Derived.Test.YthgdiddgooippaaAdd
import Derived.Test.YthgdiddgooippaaOpenNet
import Derived.Lib.SmallJoins
import Derived.Deep.RegionHeld3
import Derived.Deep.DeepCutAuto
namespace Go.Proofs.Ythgdiddgooippaa.fnExactAddDitch
open Go.ChangeShapes Go.WideShapes Go.ChangeAt Go.RowKit Go.Joins
open Go.ChangeMaps (open_string shut_string)
set_option linter.unusedVariables false
set_option maxRecDepth 100000 in
set_option maxHeartbeats 4000000 in
theorem walk (J : Int) (Ads : Option Addr) (nds : Nat) (ds : List Int) (cds : Nat) (a : Int) (b : Int) (f : Int) (w : World) (wJ : (Lit.int .i64 J).wf = true) (lfds : ds.length = nds * 3) (rds : RC w Ads (ints ds)) (mds : nds ≤ 9223372036854775807) (wa : (Lit.int .i64 a).wf = true) (wb : (Lit.int .i64 b).wf = true) (wf : (Lit.int .i64 f).wf = true) :
    Calls Try.prog 5 #[.agg #[.int .i64 J, .slice Ads nds cds], .agg #[.int .i64 a, .int .i64 b, .int .i64 f]] w fun e w' => e = .returned (.bool true) ∧ Below w.heap.size w w' := by
  clear wJ wa wb wf
  have LFds := Lib.hid lfds
  clear lfds
  by_cases hz0 : nds ≤ 1048576
  rotate_left
  · go_enter Try.func5, Try.ntmps5
    go_wp2_with fail
    refine (szNet_no _ _ _ _ _ _ (by omega) (by omega) (by omega) mds).mono ?_
    rintro e w1 ⟨rfl, b1⟩
    go_wp2
    go_ret
    exact ⟨rfl, by repeat (first | exact Below.refl _ _ | assumption | apply bl_alloc | apply bl_drewN | apply Below.drew | (refine bl_set ?_ (by first | exact Nat.le_refl _ | (simp; done) | (simp; omega)) _) | (refine bl_trans ?_ (by assumption)))⟩
  have hmds : nds ≤ 1048576 := by omega
  go_enter Try.func5, Try.ntmps5
  go_wp2_with fail
  refine (szNet_yes _ _ _ _ _ _ (by omega) (by omega)).mono ?_
  rintro e w1 ⟨rfl, b1⟩
  have s1 : Below w.heap.size w w1 := (by repeat (first | exact Below.refl _ _ | assumption | apply bl_alloc | apply bl_drewN | apply Below.drew | (refine bl_set ?_ (by first | exact Nat.le_refl _ | (simp; done) | (simp; omega)) _) | (refine bl_trans ?_ (by assumption))))
  have z1 := s1.size
  have t1 : Below w.heap.size w w1 := s1
  have kp : w1.heap[w.heap.size]? = some (.cells #[.int .i64 J, .slice Ads nds cds] 24 (0, 0)) := keep_blk (hb := b1) (h := by repeat (first | (refine blk_new ?_; (first | rfl | (simp; done) | (simp; omega))) | refine blk_drewN ?_ | refine blk_drew ?_ | refine blk_old ?_))
  have vkp := blk_lt kp
  obtain ⟨kp0, kp1, kpl⟩ := row_two kp
  have kd : w1.heap[w.heap.size + 1]? = some (.cells #[.int .i64 a, .int .i64 b, .int .i64 f] 35 (0, 0)) := keep_blk (hb := b1) (h := by repeat (first | (refine blk_new ?_; (first | rfl | (simp; done) | (simp; omega))) | refine blk_drewN ?_ | refine blk_drew ?_ | refine blk_old ?_))
  have vkd := blk_lt kd
  obtain ⟨kd0, kd1, kd2, kdl⟩ := row_three kd
  go_upto_region 5 with fail
  go_cut [6, 7] (fun s6 s7 wx => ∃ (g L H : Nat) (X : Option Addr) (c : Nat), s6 = .pointer (some ⟨g, 0, none⟩) ∧ s7 = .int .i64 (adC J nds ds a b f) ∧ wx.heap[g]? = some (.cells #[.int .i64 (adJ J nds ds a b f), .slice X (adN J nds ds a b f) c] 29 (0, 0)) ∧ OwnC L H wx X (ints (adL J nds ds a b f)) ∧ (g < L ∨ H ≤ g) ∧ w1.heap.size ≤ g ∧ w1.heap.size ≤ L ∧ H ≤ wx.heap.size ∧ Below w1.heap.size w1 wx)
  case first =>
    go_region_held3 (fun w' => w'.cell? ⟨w.heap.size, 0, none⟩ = some (.int .i64 J) ∧ w'.cell? ⟨w.heap.size, 1, none⟩ = some (.slice Ads nds cds) ∧ w'.cell? ⟨w.heap.size + 1, 0, none⟩ = some (.int .i64 a) ∧ w'.cell? ⟨w.heap.size + 1, 1, none⟩ = some (.int .i64 b) ∧ w'.cell? ⟨w.heap.size + 1, 2, none⟩ = some (.int .i64 f)) (((try dsimp only); refine ⟨?_, ?_, ?_, ?_, ?_⟩ <;> (first | ((repeat (first | with_reducible assumption | with_reducible refine kc_drew ?_ | with_reducible refine kc_drewN ?_ | with_reducible refine kc_alloc ?_ | with_reducible refine kc_set ?_ (by first | omega | (simp; done) | (simp; omega)))); done) | (simp [go_sem]; done)))) (first | (go_at_call 13; refine (toNet_any _ _ _ _ _ _ (rds.below (by repeat (first | exact Below.refl _ _ | assumption | apply bl_alloc | apply bl_drewN | apply Below.drew | (refine bl_set ?_ (by first | exact Nat.le_refl _ | (simp; done) | (simp; omega)) _) | (refine bl_trans ?_ (by assumption))))) LFds.out hmds).mono ?_; rintro e va ⟨_, _, rfl, oa, ba, ga, rfl, rfl⟩; have tva : Below w1.heap.size w1 va := (by repeat (first | exact Below.refl _ _ | assumption | apply bl_alloc | apply bl_drewN | apply Below.drew | (refine bl_set ?_ (by first | exact Nat.le_refl _ | (simp; done) | (simp; omega)) _) | (refine bl_trans ?_ (by assumption)))); have zva := tva.size; have kp' : va.heap[w.heap.size]? = some (.cells #[.int .i64 J, .slice Ads nds cds] 24 (0, 0)) := keep_blk (hb := ba) (h := by repeat (first | exact kp | exact kd | refine blk_drew ?_ | refine blk_drewN ?_ | (refine blk_new ?_; (first | rfl | (simp; done))) | refine blk_old ?_)); (try clear kp0 kp1 kpl); (try clear kp); have kp := kp'; clear kp'; obtain ⟨kp0, kp1, kpl⟩ := row_two kp; have kpva := kpl; have kd' : va.heap[w.heap.size + 1]? = some (.cells #[.int .i64 a, .int .i64 b, .int .i64 f] 35 (0, 0)) := keep_blk (hb := ba) (h := by repeat (first | exact kp | exact kd | refine blk_drew ?_ | refine blk_drewN ?_ | (refine blk_new ?_; (first | rfl | (simp; done))) | refine blk_old ?_)); (try clear kd0 kd1 kd2 kdl); (try clear kd); have kd := kd'; clear kd'; obtain ⟨kd0, kd1, kd2, kdl⟩ := row_three kd; have kdva := kdl; (try (have qa : va.heap[w1.heap.size]? = some (.cells #[.int .i64 0, .slice none 0 0] 29 (0, 0)) := keep_blk (hb := ba) (h := by first | exact blk_new (by first | rfl | (simp; done)) | (refine blk_drew ?_; exact blk_new (by first | rfl | (simp; done)))); obtain ⟨qa0, qa1, qaf, qae, qal⟩ := cells_two qa (Below.refl _ _); have qak := qal))) | (go_at_call 19; refine (toDitch_any _ _ _ _).mono ?_; rintro e vb ⟨rfl, bb⟩; have uvb : Below va.heap.size va vb := (by repeat (first | exact Below.refl _ _ | assumption | apply bl_alloc | apply bl_drewN | apply Below.drew | (refine bl_set ?_ (by first | exact Nat.le_refl _ | (simp; done) | (simp; omega)) _) | (refine bl_trans ?_ (by assumption)))); have zab := uvb.size; have tvb : Below w1.heap.size w1 vb := (by repeat (first | exact Below.refl _ _ | assumption | apply bl_alloc | apply bl_drewN | apply Below.drew | (refine bl_set ?_ (by first | exact Nat.le_refl _ | (simp; done) | (simp; omega)) _) | (refine bl_trans ?_ (by assumption)))); have zvb := tvb.size; have kp' : vb.heap[w.heap.size]? = some (.cells #[.int .i64 J, .slice Ads nds cds] 24 (0, 0)) := keep_blk (hb := bb) (h := by repeat (first | exact kp | exact kd | refine blk_drew ?_ | refine blk_drewN ?_ | (refine blk_new ?_; (first | rfl | (simp; done))) | refine blk_old ?_)); (try clear kp0 kp1 kpl); (try clear kp); have kp := kp'; clear kp'; obtain ⟨kp0, kp1, kpl⟩ := row_two kp; have kpvb := kpl; have kd' : vb.heap[w.heap.size + 1]? = some (.cells #[.int .i64 a, .int .i64 b, .int .i64 f] 35 (0, 0)) := keep_blk (hb := bb) (h := by repeat (first | exact kp | exact kd | refine blk_drew ?_ | refine blk_drewN ?_ | (refine blk_new ?_; (first | rfl | (simp; done))) | refine blk_old ?_)); (try clear kd0 kd1 kd2 kdl); (try clear kd); have kd := kd'; clear kd'; obtain ⟨kd0, kd1, kd2, kdl⟩ := row_three kd; have kdvb := kdl; (try (have qa' : vb.heap[w1.heap.size]? = some (.cells #[.int .i64 0, .slice none 0 0] 29 (0, 0)) := keep_blk (hb := bb) (h := by first | exact qa | exact blk_old qa | exact blk_drew qa); clear qa qa0 qa1 qaf qae qal; have qa := qa'; clear qa'; obtain ⟨qa0, qa1, qaf, qae, qal⟩ := cells_two qa (Below.refl _ _))); (try (have qb : vb.heap[va.heap.size]? = some (.cells #[.int .i64 0, .slice none 0 0] 29 (0, 0)) := keep_blk (hb := bb) (h := by first | exact blk_new (by first | rfl | (simp; done)) | (refine blk_drew ?_; exact blk_new (by first | rfl | (simp; done)))); obtain ⟨qb0, qb1, qbf, qbe, qbl⟩ := cells_two qb (Below.refl _ _); have qbk := qbl))) | (go_at_call 18; refine (specAdd _ _ nds J a b f ds ((oa.below (Below.mono (B := va.heap.size) (by repeat (first | exact Below.refl _ _ | assumption | apply bl_alloc | apply bl_drewN | apply Below.drew | (refine bl_set ?_ (by first | exact Nat.le_refl _ | (simp; done) | (simp; omega)) _) | (refine bl_trans ?_ (by assumption)))) (Nat.le_refl _))).rc) LFds.out hmds).mono ?_; rintro e vc ⟨_, _, rfl, oc, bc⟩; have tvc : Below w1.heap.size w1 vc := (by repeat (first | exact Below.refl _ _ | assumption | apply bl_alloc | apply bl_drewN | apply Below.drew | (refine bl_set ?_ (by first | exact Nat.le_refl _ | (simp; done) | (simp; omega)) _) | (refine bl_trans ?_ (by assumption)))); have zvc := tvc.size; have kp' : vc.heap[w.heap.size]? = some (.cells #[.int .i64 J, .slice Ads nds cds] 24 (0, 0)) := keep_blk (hb := bc) (h := by repeat (first | exact kp | exact kd | refine blk_drew ?_ | refine blk_drewN ?_ | (refine blk_new ?_; (first | rfl | (simp; done))) | refine blk_old ?_)); (try clear kp0 kp1 kpl); (try clear kp); have kp := kp'; clear kp'; obtain ⟨kp0, kp1, kpl⟩ := row_two kp; have kpvc := kpl; have kd' : vc.heap[w.heap.size + 1]? = some (.cells #[.int .i64 a, .int .i64 b, .int .i64 f] 35 (0, 0)) := keep_blk (hb := bc) (h := by repeat (first | exact kp | exact kd | refine blk_drew ?_ | refine blk_drewN ?_ | (refine blk_new ?_; (first | rfl | (simp; done))) | refine blk_old ?_)); (try clear kd0 kd1 kd2 kdl); (try clear kd); have kd := kd'; clear kd'; obtain ⟨kd0, kd1, kd2, kdl⟩ := row_three kd; have kdvc := kdl; (try (have qa' : vc.heap[w1.heap.size]? = some (.cells #[.int .i64 0, .slice none 0 0] 29 (0, 0)) := keep_blk (hb := bc) (h := by first | exact qa | exact blk_old qa | exact blk_drew qa); clear qa qa0 qa1 qaf qae qal; have qa := qa'; clear qa'; obtain ⟨qa0, qa1, qaf, qae, qal⟩ := cells_two qa (Below.refl _ _))); (try (have qb' : vc.heap[va.heap.size]? = some (.cells #[.int .i64 0, .slice none 0 0] 29 (0, 0)) := keep_blk (hb := bc) (h := by first | exact qb | exact blk_old qb | exact blk_drew qb); clear qb qb0 qb1 qbf qbe qbl; have qb := qb'; clear qb'; obtain ⟨qb0, qb1, qbf, qbe, qbl⟩ := cells_two qb (Below.refl _ _))); (try (have qc : vc.heap[vb.heap.size]? = some (.cells #[.int .i64 0, .slice none 0 0] 29 (0, 0)) := keep_blk (hb := bc) (h := by first | exact blk_new (by first | rfl | (simp; done)) | (refine blk_drew ?_; exact blk_new (by first | rfl | (simp; done)))); obtain ⟨qc0, qc1, qcf, qce, qcl⟩ := cells_two qc (Below.refl _ _); have qck := qcl))) | fail)
    all_goals (go_wp2_with fail; go_meet; (first | exact ⟨vc.heap.size, vb.heap.size, vc.heap.size, _, _, rfl, rfl, (by first | exact blk_new rfl | exact blk_drew (blk_new rfl)), oc.alloc _, .inr (Nat.le_refl _), (by first | omega | (simp; done) | (simp; omega)), (by first | omega | (simp; done) | (simp; omega)), (by simp), (by repeat (first | exact Below.refl _ _ | assumption | apply bl_alloc | apply bl_drewN | apply Below.drew | (refine bl_set ?_ (by first | exact Nat.le_refl _ | (simp; done) | (simp; omega)) _) | (refine bl_trans ?_ (by assumption))))⟩ | exact ⟨w1.heap.size, vb.heap.size, vc.heap.size, _, _, rfl, rfl, two_set qa, ((oc.wide (B' := vb.heap.size) (by first | exact Nat.le_refl _ | (simp; done)) (Nat.le_refl _)).far (.inl (by first | omega | (simp; done) | (simp; omega))) _).far (.inl (by first | omega | (simp; done) | (simp; omega))) _, .inl (by first | omega | (simp; done) | (simp; omega)), (by first | omega | (simp; done) | (simp; omega)), (by first | omega | (simp; done) | (simp; omega)), (by simp), (by repeat (first | exact Below.refl _ _ | assumption | apply bl_alloc | apply bl_drewN | apply Below.drew | (refine bl_set ?_ (by first | exact Nat.le_refl _ | (simp; done) | (simp; omega)) _) | (refine bl_trans ?_ (by assumption))))⟩ | exact ⟨va.heap.size, vb.heap.size, vc.heap.size, _, _, rfl, rfl, two_set qb, ((oc.wide (B' := vb.heap.size) (by first | exact Nat.le_refl _ | (simp; done)) (Nat.le_refl _)).far (.inl (by first | omega | (simp; done) | (simp; omega))) _).far (.inl (by first | omega | (simp; done) | (simp; omega))) _, .inl (by first | omega | (simp; done) | (simp; omega)), (by first | omega | (simp; done) | (simp; omega)), (by first | omega | (simp; done) | (simp; omega)), (by simp), (by repeat (first | exact Below.refl _ _ | assumption | apply bl_alloc | apply bl_drewN | apply Below.drew | (refine bl_set ?_ (by first | exact Nat.le_refl _ | (simp; done) | (simp; omega)) _) | (refine bl_trans ?_ (by assumption))))⟩ | exact ⟨vb.heap.size, vb.heap.size + 1, vc.heap.size, _, _, rfl, rfl, two_set qc, ((oc.wide (B' := vb.heap.size + 1) (by first | exact Nat.le_refl _ | (simp; done)) (Nat.le_refl _)).far (.inl (by first | omega | (simp; done) | (simp; omega))) _).far (.inl (by first | omega | (simp; done) | (simp; omega))) _, .inl (by first | omega | (simp; done) | (simp; omega)), (by first | omega | (simp; done) | (simp; omega)), (by first | omega | (simp; done) | (simp; omega)), (by simp), (by repeat (first | exact Below.refl _ _ | assumption | apply bl_alloc | apply bl_drewN | apply Below.drew | (refine bl_set ?_ (by first | exact Nat.le_refl _ | (simp; done) | (simp; omega)) _) | (refine bl_trans ?_ (by assumption))))⟩))
  case rest =>
    obtain ⟨g2, L2, H2, X2, c2, rfl, rfl, kw, o2, d2, e2, f2, h2, b2⟩ := hcut
    obtain ⟨w2, rfl⟩ : ∃ x : World, x = wc := ⟨_, rfl⟩
    have s2 : Below w1.heap.size w1 w2 := (by repeat (first | exact Below.refl _ _ | assumption | apply bl_alloc | apply bl_drewN | apply Below.drew | (refine bl_set ?_ (by first | exact Nat.le_refl _ | (simp; done) | (simp; omega)) _) | (refine bl_trans ?_ (by assumption))))
    have z2 := s2.size
    have t2 : Below w.heap.size w w2 := t1.trans (s2.mono (by omega))
    replace kp : w2.heap[w.heap.size]? = some (.cells #[.int .i64 J, .slice Ads nds cds] 24 (0, 0)) := keep_blk (hb := s2) (h := kp)
    clear kp0 kp1 kpl
    obtain ⟨kp0, kp1, kpl⟩ := row_two kp
    replace kd : w2.heap[w.heap.size + 1]? = some (.cells #[.int .i64 a, .int .i64 b, .int .i64 f] 35 (0, 0)) := keep_blk (hb := s2) (h := kd)
    clear kd0 kd1 kd2 kdl
    obtain ⟨kd0, kd1, kd2, kdl⟩ := row_three kd
    have vkw := blk_lt kw
    obtain ⟨kw0, kw1, kwl⟩ := row_two kw
    go_wp2_with fail
    refine (toNet_any _ _ _ _ _ _ (rds.below (by repeat (first | exact Below.refl _ _ | assumption | apply bl_alloc | apply bl_drewN | apply Below.drew | (refine bl_set ?_ (by first | exact Nat.le_refl _ | (simp; done) | (simp; omega)) _) | (refine bl_trans ?_ (by assumption))))) LFds.out hmds).mono ?_
    rintro e w3 ⟨_, _, rfl, o3, b3, g3, rfl, rfl⟩
    have s3 : Below w2.heap.size w2 w3 := (by repeat (first | exact Below.refl _ _ | assumption | apply bl_alloc | apply bl_drewN | apply Below.drew | (refine bl_set ?_ (by first | exact Nat.le_refl _ | (simp; done) | (simp; omega)) _) | (refine bl_trans ?_ (by assumption))))
    have z3 := s3.size
    have t3 : Below w.heap.size w w3 := t2.trans (s3.mono (by omega))
    replace o2 := o2.below (s3.mono (by omega))
    replace kp : w3.heap[w.heap.size]? = some (.cells #[.int .i64 J, .slice Ads nds cds] 24 (0, 0)) := keep_blk (hb := s3) (h := kp)
    clear kp0 kp1 kpl
    obtain ⟨kp0, kp1, kpl⟩ := row_two kp
    replace kd : w3.heap[w.heap.size + 1]? = some (.cells #[.int .i64 a, .int .i64 b, .int .i64 f] 35 (0, 0)) := keep_blk (hb := s3) (h := kd)
    clear kd0 kd1 kd2 kdl
    obtain ⟨kd0, kd1, kd2, kdl⟩ := row_three kd
    replace kw : w3.heap[g2]? = some (.cells #[.int .i64 (adJ J nds ds a b f), .slice X2 (adN J nds ds a b f) c2] 29 (0, 0)) := keep_blk (hb := s3) (h := kw)
    clear kw0 kw1 kwl
    obtain ⟨kw0, kw1, kwl⟩ := row_two kw
    replace o3 := o3.wide (B' := w2.heap.size) (E' := w3.heap.size) (Below.size (B := w2.heap.size) (by repeat (first | exact Below.refl _ _ | assumption | apply bl_alloc | apply bl_drewN | apply Below.drew | (refine bl_set ?_ (by first | exact Nat.le_refl _ | (simp; done) | (simp; omega)) _) | (refine bl_trans ?_ (by assumption))))) (Nat.le_refl _)
    go_upto_region 7 with fail
    go_cut [9, 10] (fun s6 s7 wx => ∃ (g L H : Nat) (X : Option Addr) (c : Nat), s6 = .pointer (some ⟨g, 0, none⟩) ∧ s7 = .int .i64 (adC J nds ds a b f) ∧ wx.heap[g]? = some (.cells #[.int .i64 (adJ J nds ds a b f), .slice X (adN J nds ds a b f) c] 29 (0, 0)) ∧ OwnC L H wx X (ints (adL J nds ds a b f)) ∧ (g < L ∨ H ≤ g) ∧ w3.heap.size + 1 ≤ g ∧ w3.heap.size + 1 ≤ L ∧ H ≤ wx.heap.size ∧ Below w3.heap.size w3 wx ∧ wx.heap[w3.heap.size]? = some (.cells #[.int .i64 J, .slice (some ⟨g3, 0, none⟩) nds nds] 29 (0, 0)))
    case first =>
      go_region_held3 (fun w' => w'.cell? ⟨w3.heap.size, 0, none⟩ = some (.int .i64 J) ∧ w'.cell? ⟨w3.heap.size, 1, none⟩ = some (.slice (some ⟨g3, 0, none⟩) nds nds) ∧ w'.cell? ⟨w.heap.size + 1, 0, none⟩ = some (.int .i64 a) ∧ w'.cell? ⟨w.heap.size + 1, 1, none⟩ = some (.int .i64 b) ∧ w'.cell? ⟨w.heap.size + 1, 2, none⟩ = some (.int .i64 f)) (((try dsimp only); refine ⟨?_, ?_, ?_, ?_, ?_⟩ <;> (first | ((repeat (first | with_reducible assumption | with_reducible refine kc_drew ?_ | with_reducible refine kc_drewN ?_ | with_reducible refine kc_alloc ?_ | with_reducible refine kc_set ?_ (by first | omega | (simp; done) | (simp; omega)))); done) | (simp [go_sem]; done)))) (first | (go_at_call 19; refine (toDitch_any _ _ _ _).mono ?_; rintro e vb ⟨rfl, bb⟩; have tvb : Below w3.heap.size w3 vb := (by repeat (first | exact Below.refl _ _ | assumption | apply bl_alloc | apply bl_drewN | apply Below.drew | (refine bl_set ?_ (by first | exact Nat.le_refl _ | (simp; done) | (simp; omega)) _) | (refine bl_trans ?_ (by assumption)))); have zvb := tvb.size; have kx' : vb.heap[w3.heap.size]? = some (.cells #[.int .i64 J, .slice (some ⟨g3, 0, none⟩) nds nds] 29 (0, 0)) := keep_blk (hb := bb) (h := by repeat (first | exact kx | exact kd | refine blk_drew ?_ | refine blk_drewN ?_ | (refine blk_new ?_; (first | rfl | (simp; done))) | refine blk_old ?_)); (try clear kx0 kx1 kxl); (try clear kx); have kx := kx'; clear kx'; obtain ⟨kx0, kx1, kxl⟩ := row_two kx; have kxvb := kxl; have kd' : vb.heap[w.heap.size + 1]? = some (.cells #[.int .i64 a, .int .i64 b, .int .i64 f] 35 (0, 0)) := keep_blk (hb := bb) (h := by repeat (first | exact kx | exact kd | refine blk_drew ?_ | refine blk_drewN ?_ | (refine blk_new ?_; (first | rfl | (simp; done))) | refine blk_old ?_)); (try clear kd0 kd1 kd2 kdl); (try clear kd); have kd := kd'; clear kd'; obtain ⟨kd0, kd1, kd2, kdl⟩ := row_three kd; have kdvb := kdl; (try (have qb : vb.heap[w3.heap.size + 1]? = some (.cells #[.int .i64 0, .slice none 0 0] 29 (0, 0)) := keep_blk (hb := bb) (h := by first | exact blk_new (by first | rfl | (simp; done)) | (refine blk_drew ?_; exact blk_new (by first | rfl | (simp; done)))); obtain ⟨qb0, qb1, qbf, qbe, qbl⟩ := cells_two qb (Below.refl _ _); have qbk := qbl))) | (go_at_call 20; refine (implAdd _ _ nds J a b f ds ((o3.below (Below.mono (B := w3.heap.size) (by repeat (first | exact Below.refl _ _ | assumption | apply bl_alloc | apply bl_drewN | apply Below.drew | (refine bl_set ?_ (by first | exact Nat.le_refl _ | (simp; done) | (simp; omega)) _) | (refine bl_trans ?_ (by assumption)))) (by omega))).rc) LFds.out hmds).mono ?_; rintro e vc ⟨_, _, rfl, oc, bc⟩; have tvc : Below w3.heap.size w3 vc := (by repeat (first | exact Below.refl _ _ | assumption | apply bl_alloc | apply bl_drewN | apply Below.drew | (refine bl_set ?_ (by first | exact Nat.le_refl _ | (simp; done) | (simp; omega)) _) | (refine bl_trans ?_ (by assumption)))); have zvc := tvc.size; have kx' : vc.heap[w3.heap.size]? = some (.cells #[.int .i64 J, .slice (some ⟨g3, 0, none⟩) nds nds] 29 (0, 0)) := keep_blk (hb := bc) (h := by repeat (first | exact kx | exact kd | refine blk_drew ?_ | refine blk_drewN ?_ | (refine blk_new ?_; (first | rfl | (simp; done))) | refine blk_old ?_)); (try clear kx0 kx1 kxl); (try clear kx); have kx := kx'; clear kx'; obtain ⟨kx0, kx1, kxl⟩ := row_two kx; have kxvc := kxl; have kd' : vc.heap[w.heap.size + 1]? = some (.cells #[.int .i64 a, .int .i64 b, .int .i64 f] 35 (0, 0)) := keep_blk (hb := bc) (h := by repeat (first | exact kx | exact kd | refine blk_drew ?_ | refine blk_drewN ?_ | (refine blk_new ?_; (first | rfl | (simp; done))) | refine blk_old ?_)); (try clear kd0 kd1 kd2 kdl); (try clear kd); have kd := kd'; clear kd'; obtain ⟨kd0, kd1, kd2, kdl⟩ := row_three kd; have kdvc := kdl; (try (have qb' : vc.heap[w3.heap.size + 1]? = some (.cells #[.int .i64 0, .slice none 0 0] 29 (0, 0)) := keep_blk (hb := bc) (h := by first | exact qb | exact blk_old qb | exact blk_drew qb); clear qb qb0 qb1 qbf qbe qbl; have qb := qb'; clear qb'; obtain ⟨qb0, qb1, qbf, qbe, qbl⟩ := cells_two qb (Below.refl _ _))); (try (have qc : vc.heap[vb.heap.size]? = some (.cells #[.int .i64 0, .slice none 0 0] 29 (0, 0)) := keep_blk (hb := bc) (h := by first | exact blk_new (by first | rfl | (simp; done)) | (refine blk_drew ?_; exact blk_new (by first | rfl | (simp; done)))); obtain ⟨qc0, qc1, qcf, qce, qcl⟩ := cells_two qc (Below.refl _ _); have qck := qcl))) | fail)
      all_goals (go_wp2_with fail; go_meet; (first | exact ⟨vc.heap.size, vb.heap.size, vc.heap.size, _, _, rfl, rfl, (by first | exact blk_new rfl | exact blk_drew (blk_new rfl)), oc.alloc _, .inr (Nat.le_refl _), (by first | omega | (simp; done) | (simp; omega)), (by first | omega | (simp; done) | (simp; omega)), (by simp), (by repeat (first | exact Below.refl _ _ | assumption | apply bl_alloc | apply bl_drewN | apply Below.drew | (refine bl_set ?_ (by first | exact Nat.le_refl _ | (simp; done) | (simp; omega)) _) | (refine bl_trans ?_ (by assumption)))), by first | exact kb_set (kb_set kx (by first | omega | (simp; done) | (simp; omega))) (by first | omega | (simp; done) | (simp; omega)) | exact blk_old kx | exact blk_drew (blk_old kx)⟩ | exact ⟨w3.heap.size + 1, vb.heap.size, vc.heap.size, _, _, rfl, rfl, two_set qb, ((oc.wide (B' := vb.heap.size) (by first | exact Nat.le_refl _ | (simp; done)) (Nat.le_refl _)).far (.inl (by first | omega | (simp; done) | (simp; omega))) _).far (.inl (by first | omega | (simp; done) | (simp; omega))) _, .inl (by first | omega | (simp; done) | (simp; omega)), (by first | omega | (simp; done) | (simp; omega)), (by first | omega | (simp; done) | (simp; omega)), (by simp), (by repeat (first | exact Below.refl _ _ | assumption | apply bl_alloc | apply bl_drewN | apply Below.drew | (refine bl_set ?_ (by first | exact Nat.le_refl _ | (simp; done) | (simp; omega)) _) | (refine bl_trans ?_ (by assumption)))), by first | exact kb_set (kb_set kx (by first | omega | (simp; done) | (simp; omega))) (by first | omega | (simp; done) | (simp; omega)) | exact blk_old kx | exact blk_drew (blk_old kx)⟩ | exact ⟨vb.heap.size, vb.heap.size + 1, vc.heap.size, _, _, rfl, rfl, two_set qc, ((oc.wide (B' := vb.heap.size + 1) (by first | exact Nat.le_refl _ | (simp; done)) (Nat.le_refl _)).far (.inl (by first | omega | (simp; done) | (simp; omega))) _).far (.inl (by first | omega | (simp; done) | (simp; omega))) _, .inl (by first | omega | (simp; done) | (simp; omega)), (by first | omega | (simp; done) | (simp; omega)), (by first | omega | (simp; done) | (simp; omega)), (by simp), (by repeat (first | exact Below.refl _ _ | assumption | apply bl_alloc | apply bl_drewN | apply Below.drew | (refine bl_set ?_ (by first | exact Nat.le_refl _ | (simp; done) | (simp; omega)) _) | (refine bl_trans ?_ (by assumption)))), by first | exact kb_set (kb_set kx (by first | omega | (simp; done) | (simp; omega))) (by first | omega | (simp; done) | (simp; omega)) | exact blk_old kx | exact blk_drew (blk_old kx)⟩))
    case rest =>
      obtain ⟨g4, L4, H4, X4, c4, rfl, rfl, kg, o4, d4, e4, f4, h4, b4, kx⟩ := hcut
      obtain ⟨w4, rfl⟩ : ∃ x : World, x = wc := ⟨_, rfl⟩
      have s4 : Below w3.heap.size w3 w4 := (by repeat (first | exact Below.refl _ _ | assumption | apply bl_alloc | apply bl_drewN | apply Below.drew | (refine bl_set ?_ (by first | exact Nat.le_refl _ | (simp; done) | (simp; omega)) _) | (refine bl_trans ?_ (by assumption))))
      have z4 := s4.size
      have t4 : Below w.heap.size w w4 := t3.trans (s4.mono (by omega))
      replace o2 := o2.below (s4.mono (by omega))
      replace o3 := o3.below (s4.mono (by omega))
      replace kp : w4.heap[w.heap.size]? = some (.cells #[.int .i64 J, .slice Ads nds cds] 24 (0, 0)) := keep_blk (hb := s4) (h := kp)
      clear kp0 kp1 kpl
      obtain ⟨kp0, kp1, kpl⟩ := row_two kp
      replace kd : w4.heap[w.heap.size + 1]? = some (.cells #[.int .i64 a, .int .i64 b, .int .i64 f] 35 (0, 0)) := keep_blk (hb := s4) (h := kd)
      clear kd0 kd1 kd2 kdl
      obtain ⟨kd0, kd1, kd2, kdl⟩ := row_three kd
      replace kw : w4.heap[g2]? = some (.cells #[.int .i64 (adJ J nds ds a b f), .slice X2 (adN J nds ds a b f) c2] 29 (0, 0)) := keep_blk (hb := s4) (h := kw)
      clear kw0 kw1 kwl
      obtain ⟨kw0, kw1, kwl⟩ := row_two kw
      have vkx := blk_lt kx
      obtain ⟨kx0, kx1, kxl⟩ := row_two kx
      have vkg := blk_lt kg
      obtain ⟨kg0, kg1, kgl⟩ := row_two kg
      go_wp2_with fail
      refine (eqNet_any _ _ _ _ _ _ _ _ ((o4.below (Below.mono (B := w4.heap.size) (by repeat (first | exact Below.refl _ _ | assumption | apply bl_alloc | apply bl_drewN | apply Below.drew | (refine bl_set ?_ (by first | exact Nat.le_refl _ | (simp; done) | (simp; omega)) _) | (refine bl_trans ?_ (by assumption)))) (by omega))).rc) ((o2.below (Below.mono (B := w4.heap.size) (by repeat (first | exact Below.refl _ _ | assumption | apply bl_alloc | apply bl_drewN | apply Below.drew | (refine bl_set ?_ (by first | exact Nat.le_refl _ | (simp; done) | (simp; omega)) _) | (refine bl_trans ?_ (by assumption)))) (by omega))).rc) (adL_len LFds.out) adN_le).mono ?_
      rintro e w5 ⟨rfl, b5⟩
      have s5 : Below w4.heap.size w4 w5 := (by repeat (first | exact Below.refl _ _ | assumption | apply bl_alloc | apply bl_drewN | apply Below.drew | (refine bl_set ?_ (by first | exact Nat.le_refl _ | (simp; done) | (simp; omega)) _) | (refine bl_trans ?_ (by assumption))))
      have z5 := s5.size
      have t5 : Below w.heap.size w w5 := t4.trans (s5.mono (by omega))
      replace o2 := o2.below (s5.mono (by omega))
      replace o3 := o3.below (s5.mono (by omega))
      replace o4 := o4.below (s5.mono (by omega))
      replace kp : w5.heap[w.heap.size]? = some (.cells #[.int .i64 J, .slice Ads nds cds] 24 (0, 0)) := keep_blk (hb := s5) (h := kp)
      clear kp0 kp1 kpl
      obtain ⟨kp0, kp1, kpl⟩ := row_two kp
      replace kd : w5.heap[w.heap.size + 1]? = some (.cells #[.int .i64 a, .int .i64 b, .int .i64 f] 35 (0, 0)) := keep_blk (hb := s5) (h := kd)
      clear kd0 kd1 kd2 kdl
      obtain ⟨kd0, kd1, kd2, kdl⟩ := row_three kd
      replace kw : w5.heap[g2]? = some (.cells #[.int .i64 (adJ J nds ds a b f), .slice X2 (adN J nds ds a b f) c2] 29 (0, 0)) := keep_blk (hb := s5) (h := kw)
      clear kw0 kw1 kwl
      obtain ⟨kw0, kw1, kwl⟩ := row_two kw
      replace kx : w5.heap[w3.heap.size]? = some (.cells #[.int .i64 J, .slice (some ⟨g3, 0, none⟩) nds nds] 29 (0, 0)) := keep_blk (hb := s5) (h := kx)
      clear kx0 kx1 kxl
      obtain ⟨kx0, kx1, kxl⟩ := row_two kx
      replace kg : w5.heap[g4]? = some (.cells #[.int .i64 (adJ J nds ds a b f), .slice X4 (adN J nds ds a b f) c4] 29 (0, 0)) := keep_blk (hb := s5) (h := kg)
      clear kg0 kg1 kgl
      obtain ⟨kg0, kg1, kgl⟩ := row_two kg
      go_wp2_with fail
      go_region_held3 (fun w' => w'.cell? ⟨w3.heap.size, 0, none⟩ = some (.int .i64 J) ∧ w'.cell? ⟨w3.heap.size, 1, none⟩ = some (.slice (some ⟨g3, 0, none⟩) nds nds) ∧ w'.cell? ⟨w.heap.size, 0, none⟩ = some (.int .i64 J) ∧ w'.cell? ⟨w.heap.size, 1, none⟩ = some (.slice Ads nds cds)) (((try dsimp only); refine ⟨?_, ?_, ?_, ?_⟩ <;> (repeat (first | with_reducible assumption | with_reducible refine kc_drew ?_ | with_reducible refine kc_drewN ?_ | with_reducible refine kc_alloc ?_ | with_reducible refine kc_set ?_ (by first | omega | (simp; done) | (simp; omega)))))) (first | (go_at_call 13; refine (toNet_any _ _ _ _ _ _ (rds.below (by repeat (first | exact Below.refl _ _ | assumption | apply bl_alloc | apply bl_drewN | apply Below.drew | (refine bl_set ?_ (by first | exact Nat.le_refl _ | (simp; done) | (simp; omega)) _) | (refine bl_trans ?_ (by assumption))))) LFds.out hmds).mono ?_; rintro e w6 ⟨_, _, rfl, o6, b6, g6, rfl, rfl⟩; have s6 : Below w5.heap.size w5 w6 := (by repeat (first | exact Below.refl _ _ | assumption | apply bl_alloc | apply bl_drewN | apply Below.drew | (refine bl_set ?_ (by first | exact Nat.le_refl _ | (simp; done) | (simp; omega)) _) | (refine bl_trans ?_ (by assumption)))); have z6 := s6.size; have t6 : Below w.heap.size w w6 := t5.trans (s6.mono (by omega)); replace o2 := o2.below (s6.mono (by omega)); replace o3 := o3.below (s6.mono (by omega)); replace o4 := o4.below (s6.mono (by omega)); replace kp : w6.heap[w.heap.size]? = some (.cells #[.int .i64 J, .slice Ads nds cds] 24 (0, 0)) := keep_blk (hb := s6) (h := kp); clear kp0 kp1 kpl; obtain ⟨kp0, kp1, kpl⟩ := row_two kp; replace kd : w6.heap[w.heap.size + 1]? = some (.cells #[.int .i64 a, .int .i64 b, .int .i64 f] 35 (0, 0)) := keep_blk (hb := s6) (h := kd); clear kd0 kd1 kd2 kdl; obtain ⟨kd0, kd1, kd2, kdl⟩ := row_three kd; replace kw : w6.heap[g2]? = some (.cells #[.int .i64 (adJ J nds ds a b f), .slice X2 (adN J nds ds a b f) c2] 29 (0, 0)) := keep_blk (hb := s6) (h := kw); clear kw0 kw1 kwl; obtain ⟨kw0, kw1, kwl⟩ := row_two kw; replace kx : w6.heap[w3.heap.size]? = some (.cells #[.int .i64 J, .slice (some ⟨g3, 0, none⟩) nds nds] 29 (0, 0)) := keep_blk (hb := s6) (h := kx); clear kx0 kx1 kxl; obtain ⟨kx0, kx1, kxl⟩ := row_two kx; replace kg : w6.heap[g4]? = some (.cells #[.int .i64 (adJ J nds ds a b f), .slice X4 (adN J nds ds a b f) c4] 29 (0, 0)) := keep_blk (hb := s6) (h := kg); clear kg0 kg1 kgl; obtain ⟨kg0, kg1, kgl⟩ := row_two kg; replace o6 := o6.wide (B' := w5.heap.size) (E' := w6.heap.size) (Below.size (B := w5.heap.size) (by repeat (first | exact Below.refl _ _ | assumption | apply bl_alloc | apply bl_drewN | apply Below.drew | (refine bl_set ?_ (by first | exact Nat.le_refl _ | (simp; done) | (simp; omega)) _) | (refine bl_trans ?_ (by assumption))))) (Nat.le_refl _)) | (go_at_call 15; refine (eqNet_any _ _ _ _ _ _ _ _ ((o3.below (Below.mono (B := w6.heap.size) (by repeat (first | exact Below.refl _ _ | assumption | apply bl_alloc | apply bl_drewN | apply Below.drew | (refine bl_set ?_ (by first | exact Nat.le_refl _ | (simp; done) | (simp; omega)) _) | (refine bl_trans ?_ (by assumption)))) (by omega))).rc) ((o6.below (Below.mono (B := w6.heap.size) (by repeat (first | exact Below.refl _ _ | assumption | apply bl_alloc | apply bl_drewN | apply Below.drew | (refine bl_set ?_ (by first | exact Nat.le_refl _ | (simp; done) | (simp; omega)) _) | (refine bl_trans ?_ (by assumption)))) (by omega))).rc) LFds.out hmds).mono ?_; rintro e w7 ⟨rfl, b7⟩; have s7 : Below w6.heap.size w6 w7 := (by repeat (first | exact Below.refl _ _ | assumption | apply bl_alloc | apply bl_drewN | apply Below.drew | (refine bl_set ?_ (by first | exact Nat.le_refl _ | (simp; done) | (simp; omega)) _) | (refine bl_trans ?_ (by assumption)))); have z7 := s7.size; have t7 : Below w.heap.size w w7 := t6.trans (s7.mono (by omega)); replace o2 := o2.below (s7.mono (by omega)); replace o3 := o3.below (s7.mono (by omega)); replace o4 := o4.below (s7.mono (by omega)); replace o6 := o6.below (s7.mono (by omega)); replace kp : w7.heap[w.heap.size]? = some (.cells #[.int .i64 J, .slice Ads nds cds] 24 (0, 0)) := keep_blk (hb := s7) (h := kp); clear kp0 kp1 kpl; obtain ⟨kp0, kp1, kpl⟩ := row_two kp; replace kd : w7.heap[w.heap.size + 1]? = some (.cells #[.int .i64 a, .int .i64 b, .int .i64 f] 35 (0, 0)) := keep_blk (hb := s7) (h := kd); clear kd0 kd1 kd2 kdl; obtain ⟨kd0, kd1, kd2, kdl⟩ := row_three kd; replace kw : w7.heap[g2]? = some (.cells #[.int .i64 (adJ J nds ds a b f), .slice X2 (adN J nds ds a b f) c2] 29 (0, 0)) := keep_blk (hb := s7) (h := kw); clear kw0 kw1 kwl; obtain ⟨kw0, kw1, kwl⟩ := row_two kw; replace kx : w7.heap[w3.heap.size]? = some (.cells #[.int .i64 J, .slice (some ⟨g3, 0, none⟩) nds nds] 29 (0, 0)) := keep_blk (hb := s7) (h := kx); clear kx0 kx1 kxl; obtain ⟨kx0, kx1, kxl⟩ := row_two kx; replace kg : w7.heap[g4]? = some (.cells #[.int .i64 (adJ J nds ds a b f), .slice X4 (adN J nds ds a b f) c4] 29 (0, 0)) := keep_blk (hb := s7) (h := kg); clear kg0 kg1 kgl; obtain ⟨kg0, kg1, kgl⟩ := row_two kg))
      clear o6
      go_wp2_with fail
      refine (markNet_any _ _ _ _ _ _ _ _ _ (o3.below (Below.mono (B := w7.heap.size) (by repeat (first | exact Below.refl _ _ | assumption | apply bl_alloc | apply bl_drewN | apply Below.drew | (refine bl_set ?_ (by first | exact Nat.le_refl _ | (simp; done) | (simp; omega)) _) | (refine bl_trans ?_ (by assumption)))) (by omega))) ((ints_len _).trans LFds.out) hmds (by omega) (by omega)).mono ?_
      rintro e w8 ⟨rfl, q8, m8⟩
      have Q8 : OnlyR w2.heap.size w3.heap.size w7 w8 := OnlyR.pre (by repeat (first | exact Below.refl _ _ | assumption | apply bl_alloc | apply bl_drewN | apply Below.drew | (refine bl_set ?_ (by first | exact Nat.le_refl _ | (simp; done) | (simp; omega)) _) | (refine bl_trans ?_ (by assumption)))) q8
      have z8 := Q8.size
      have t8 : Below w.heap.size w w8 := t7.trans (Q8.below (by omega) (by omega))
      replace o2 := o2.onlyR Q8 (by omega)
      replace o4 := o4.onlyR Q8 (by omega)
      replace kp : w8.heap[w.heap.size]? = some (.cells #[.int .i64 J, .slice Ads nds cds] 24 (0, 0)) := keep_onlyR kp Q8 (by first | omega | (simp; omega))
      clear kp0 kp1 kpl
      obtain ⟨kp0, kp1, kpl⟩ := row_two kp
      replace kd : w8.heap[w.heap.size + 1]? = some (.cells #[.int .i64 a, .int .i64 b, .int .i64 f] 35 (0, 0)) := keep_onlyR kd Q8 (by first | omega | (simp; omega))
      clear kd0 kd1 kd2 kdl
      obtain ⟨kd0, kd1, kd2, kdl⟩ := row_three kd
      replace kw : w8.heap[g2]? = some (.cells #[.int .i64 (adJ J nds ds a b f), .slice X2 (adN J nds ds a b f) c2] 29 (0, 0)) := keep_onlyR kw Q8 (by first | omega | (simp; omega))
      clear kw0 kw1 kwl
      obtain ⟨kw0, kw1, kwl⟩ := row_two kw
      replace kx : w8.heap[w3.heap.size]? = some (.cells #[.int .i64 J, .slice (some ⟨g3, 0, none⟩) nds nds] 29 (0, 0)) := keep_onlyR kx Q8 (by first | omega | (simp; omega))
      clear kx0 kx1 kxl
      obtain ⟨kx0, kx1, kxl⟩ := row_two kx
      replace kg : w8.heap[g4]? = some (.cells #[.int .i64 (adJ J nds ds a b f), .slice X4 (adN J nds ds a b f) c4] 29 (0, 0)) := keep_onlyR kg Q8 (by first | omega | (simp; omega))
      clear kg0 kg1 kgl
      obtain ⟨kg0, kg1, kgl⟩ := row_two kg
      clear o3
      go_wp2_with fail
      refine (eqNet_any _ _ _ _ _ _ _ _ ((o4.below (Below.mono (B := w8.heap.size) (by repeat (first | exact Below.refl _ _ | assumption | apply bl_alloc | apply bl_drewN | apply Below.drew | (refine bl_set ?_ (by first | exact Nat.le_refl _ | (simp; done) | (simp; omega)) _) | (refine bl_trans ?_ (by assumption)))) (by omega))).rc) ((o2.below (Below.mono (B := w8.heap.size) (by repeat (first | exact Below.refl _ _ | assumption | apply bl_alloc | apply bl_drewN | apply Below.drew | (refine bl_set ?_ (by first | exact Nat.le_refl _ | (simp; done) | (simp; omega)) _) | (refine bl_trans ?_ (by assumption)))) (by omega))).rc) (adL_len LFds.out) adN_le).mono ?_
      rintro e w9 ⟨rfl, b9⟩
      have s9 : Below w8.heap.size w8 w9 := (by repeat (first | exact Below.refl _ _ | assumption | apply bl_alloc | apply bl_drewN | apply Below.drew | (refine bl_set ?_ (by first | exact Nat.le_refl _ | (simp; done) | (simp; omega)) _) | (refine bl_trans ?_ (by assumption))))
      have z9 := s9.size
      have t9 : Below w.heap.size w w9 := t8.trans (s9.mono (by omega))
      replace o2 := o2.below (s9.mono (by omega))
      replace o4 := o4.below (s9.mono (by omega))
      replace m8 := m8.below (s9.mono (by omega))
      replace kp : w9.heap[w.heap.size]? = some (.cells #[.int .i64 J, .slice Ads nds cds] 24 (0, 0)) := keep_blk (hb := s9) (h := kp)
      clear kp0 kp1 kpl
      obtain ⟨kp0, kp1, kpl⟩ := row_two kp
      replace kd : w9.heap[w.heap.size + 1]? = some (.cells #[.int .i64 a, .int .i64 b, .int .i64 f] 35 (0, 0)) := keep_blk (hb := s9) (h := kd)
      clear kd0 kd1 kd2 kdl
      obtain ⟨kd0, kd1, kd2, kdl⟩ := row_three kd
      replace kw : w9.heap[g2]? = some (.cells #[.int .i64 (adJ J nds ds a b f), .slice X2 (adN J nds ds a b f) c2] 29 (0, 0)) := keep_blk (hb := s9) (h := kw)
      clear kw0 kw1 kwl
      obtain ⟨kw0, kw1, kwl⟩ := row_two kw
      replace kx : w9.heap[w3.heap.size]? = some (.cells #[.int .i64 J, .slice (some ⟨g3, 0, none⟩) nds nds] 29 (0, 0)) := keep_blk (hb := s9) (h := kx)
      clear kx0 kx1 kxl
      obtain ⟨kx0, kx1, kxl⟩ := row_two kx
      replace kg : w9.heap[g4]? = some (.cells #[.int .i64 (adJ J nds ds a b f), .slice X4 (adN J nds ds a b f) c4] 29 (0, 0)) := keep_blk (hb := s9) (h := kg)
      clear kg0 kg1 kgl
      obtain ⟨kg0, kg1, kgl⟩ := row_two kg
      go_wp2_with fail
      refine (markNet_any _ _ _ _ _ _ _ _ _ (o4.below (Below.mono (B := w9.heap.size) (by repeat (first | exact Below.refl _ _ | assumption | apply bl_alloc | apply bl_drewN | apply Below.drew | (refine bl_set ?_ (by first | exact Nat.le_refl _ | (simp; done) | (simp; omega)) _) | (refine bl_trans ?_ (by assumption)))) (by omega))) ((ints_len _).trans (adL_len LFds.out)) adN_le (by omega) (by omega)).mono ?_
      rintro e w10 ⟨rfl, q10, m10⟩
      have Q10 : OnlyR L4 H4 w9 w10 := OnlyR.pre (by repeat (first | exact Below.refl _ _ | assumption | apply bl_alloc | apply bl_drewN | apply Below.drew | (refine bl_set ?_ (by first | exact Nat.le_refl _ | (simp; done) | (simp; omega)) _) | (refine bl_trans ?_ (by assumption)))) q10
      have z10 := Q10.size
      have t10 : Below w.heap.size w w10 := t9.trans (Q10.below (by omega) (by omega))
      replace o2 := o2.onlyR Q10 (by omega)
      replace m8 := m8.onlyR Q10 (by omega)
      replace kp : w10.heap[w.heap.size]? = some (.cells #[.int .i64 J, .slice Ads nds cds] 24 (0, 0)) := keep_onlyR kp Q10 (by first | omega | (simp; omega))
      clear kp0 kp1 kpl
      obtain ⟨kp0, kp1, kpl⟩ := row_two kp
      replace kd : w10.heap[w.heap.size + 1]? = some (.cells #[.int .i64 a, .int .i64 b, .int .i64 f] 35 (0, 0)) := keep_onlyR kd Q10 (by first | omega | (simp; omega))
      clear kd0 kd1 kd2 kdl
      obtain ⟨kd0, kd1, kd2, kdl⟩ := row_three kd
      replace kw : w10.heap[g2]? = some (.cells #[.int .i64 (adJ J nds ds a b f), .slice X2 (adN J nds ds a b f) c2] 29 (0, 0)) := keep_onlyR kw Q10 (by first | omega | (simp; omega))
      clear kw0 kw1 kwl
      obtain ⟨kw0, kw1, kwl⟩ := row_two kw
      replace kx : w10.heap[w3.heap.size]? = some (.cells #[.int .i64 J, .slice (some ⟨g3, 0, none⟩) nds nds] 29 (0, 0)) := keep_onlyR kx Q10 (by first | omega | (simp; omega))
      clear kx0 kx1 kxl
      obtain ⟨kx0, kx1, kxl⟩ := row_two kx
      replace kg : w10.heap[g4]? = some (.cells #[.int .i64 (adJ J nds ds a b f), .slice X4 (adN J nds ds a b f) c4] 29 (0, 0)) := keep_onlyR kg Q10 (by first | omega | (simp; omega))
      clear kg0 kg1 kgl
      obtain ⟨kg0, kg1, kgl⟩ := row_two kg
      clear o4
      go_wp2_with fail
      refine (heldNet_any _ _ _ _ _ _ ((m10.below (Below.mono (B := w10.heap.size) (by repeat (first | exact Below.refl _ _ | assumption | apply bl_alloc | apply bl_drewN | apply Below.drew | (refine bl_set ?_ (by first | exact Nat.le_refl _ | (simp; done) | (simp; omega)) _) | (refine bl_trans ?_ (by assumption)))) (by omega))).rc) adN_le (by omega) (by omega)).mono ?_
      rintro e w11 ⟨rfl, b11⟩
      have s11 : Below w10.heap.size w10 w11 := (by repeat (first | exact Below.refl _ _ | assumption | apply bl_alloc | apply bl_drewN | apply Below.drew | (refine bl_set ?_ (by first | exact Nat.le_refl _ | (simp; done) | (simp; omega)) _) | (refine bl_trans ?_ (by assumption))))
      have z11 := s11.size
      have t11 : Below w.heap.size w w11 := t10.trans (s11.mono (by omega))
      replace o2 := o2.below (s11.mono (by omega))
      replace m8 := m8.below (s11.mono (by omega))
      replace m10 := m10.below (s11.mono (by omega))
      replace kp : w11.heap[w.heap.size]? = some (.cells #[.int .i64 J, .slice Ads nds cds] 24 (0, 0)) := keep_blk (hb := s11) (h := kp)
      clear kp0 kp1 kpl
      obtain ⟨kp0, kp1, kpl⟩ := row_two kp
      replace kd : w11.heap[w.heap.size + 1]? = some (.cells #[.int .i64 a, .int .i64 b, .int .i64 f] 35 (0, 0)) := keep_blk (hb := s11) (h := kd)
      clear kd0 kd1 kd2 kdl
      obtain ⟨kd0, kd1, kd2, kdl⟩ := row_three kd
      replace kw : w11.heap[g2]? = some (.cells #[.int .i64 (adJ J nds ds a b f), .slice X2 (adN J nds ds a b f) c2] 29 (0, 0)) := keep_blk (hb := s11) (h := kw)
      clear kw0 kw1 kwl
      obtain ⟨kw0, kw1, kwl⟩ := row_two kw
      replace kx : w11.heap[w3.heap.size]? = some (.cells #[.int .i64 J, .slice (some ⟨g3, 0, none⟩) nds nds] 29 (0, 0)) := keep_blk (hb := s11) (h := kx)
      clear kx0 kx1 kxl
      obtain ⟨kx0, kx1, kxl⟩ := row_two kx
      replace kg : w11.heap[g4]? = some (.cells #[.int .i64 (adJ J nds ds a b f), .slice X4 (adN J nds ds a b f) c4] 29 (0, 0)) := keep_blk (hb := s11) (h := kg)
      clear kg0 kg1 kgl
      obtain ⟨kg0, kg1, kgl⟩ := row_two kg
      clear m8
      go_upto_region 24 with fail
      go_cut [14, 15] (fun s6 s7 wx => ∃ (g L H : Nat) (X : Option Addr) (c : Nat), s6 = .pointer (some ⟨g, 0, none⟩) ∧ s7 = .int .i64 (adC J nds ds a b f) ∧ wx.heap[g]? = some (.cells #[.int .i64 (adJ J nds ds a b f), .slice X (adN J nds ds a b f) c] 29 (0, 0)) ∧ OwnC L H wx X (ints (adL J nds ds a b f)) ∧ (g < L ∨ H ≤ g) ∧ w11.heap.size ≤ g ∧ w11.heap.size ≤ L ∧ H ≤ wx.heap.size ∧ Below w11.heap.size w11 wx)
      case first =>
        go_region_held3 (fun w' => w'.cell? ⟨w.heap.size, 0, none⟩ = some (.int .i64 J) ∧ w'.cell? ⟨w.heap.size, 1, none⟩ = some (.slice Ads nds cds) ∧ w'.cell? ⟨w.heap.size + 1, 0, none⟩ = some (.int .i64 a) ∧ w'.cell? ⟨w.heap.size + 1, 1, none⟩ = some (.int .i64 b) ∧ w'.cell? ⟨w.heap.size + 1, 2, none⟩ = some (.int .i64 f)) (((try dsimp only); refine ⟨?_, ?_, ?_, ?_, ?_⟩ <;> (first | ((repeat (first | with_reducible assumption | with_reducible refine kc_drew ?_ | with_reducible refine kc_drewN ?_ | with_reducible refine kc_alloc ?_ | with_reducible refine kc_set ?_ (by first | omega | (simp; done) | (simp; omega)))); done) | (simp [go_sem]; done)))) (first | (go_at_call 13; refine (toNet_any _ _ _ _ _ _ (rds.below (by repeat (first | exact Below.refl _ _ | assumption | apply bl_alloc | apply bl_drewN | apply Below.drew | (refine bl_set ?_ (by first | exact Nat.le_refl _ | (simp; done) | (simp; omega)) _) | (refine bl_trans ?_ (by assumption))))) LFds.out hmds).mono ?_; rintro e va ⟨_, _, rfl, oa, ba, ga, rfl, rfl⟩; have tva : Below w11.heap.size w11 va := (by repeat (first | exact Below.refl _ _ | assumption | apply bl_alloc | apply bl_drewN | apply Below.drew | (refine bl_set ?_ (by first | exact Nat.le_refl _ | (simp; done) | (simp; omega)) _) | (refine bl_trans ?_ (by assumption)))); have zva := tva.size; have kp' : va.heap[w.heap.size]? = some (.cells #[.int .i64 J, .slice Ads nds cds] 24 (0, 0)) := keep_blk (hb := ba) (h := by repeat (first | exact kp | exact kd | refine blk_drew ?_ | refine blk_drewN ?_ | (refine blk_new ?_; (first | rfl | (simp; done))) | refine blk_old ?_)); (try clear kp0 kp1 kpl); (try clear kp); have kp := kp'; clear kp'; obtain ⟨kp0, kp1, kpl⟩ := row_two kp; have kpva := kpl; have kd' : va.heap[w.heap.size + 1]? = some (.cells #[.int .i64 a, .int .i64 b, .int .i64 f] 35 (0, 0)) := keep_blk (hb := ba) (h := by repeat (first | exact kp | exact kd | refine blk_drew ?_ | refine blk_drewN ?_ | (refine blk_new ?_; (first | rfl | (simp; done))) | refine blk_old ?_)); (try clear kd0 kd1 kd2 kdl); (try clear kd); have kd := kd'; clear kd'; obtain ⟨kd0, kd1, kd2, kdl⟩ := row_three kd; have kdva := kdl; (try (have qa : va.heap[w11.heap.size]? = some (.cells #[.int .i64 0, .slice none 0 0] 29 (0, 0)) := keep_blk (hb := ba) (h := by first | exact blk_new (by first | rfl | (simp; done)) | (refine blk_drew ?_; exact blk_new (by first | rfl | (simp; done)))); obtain ⟨qa0, qa1, qaf, qae, qal⟩ := cells_two qa (Below.refl _ _); have qak := qal))) | (go_at_call 19; refine (toDitch_any _ _ _ _).mono ?_; rintro e vb ⟨rfl, bb⟩; have uvb : Below va.heap.size va vb := (by repeat (first | exact Below.refl _ _ | assumption | apply bl_alloc | apply bl_drewN | apply Below.drew | (refine bl_set ?_ (by first | exact Nat.le_refl _ | (simp; done) | (simp; omega)) _) | (refine bl_trans ?_ (by assumption)))); have zab := uvb.size; have tvb : Below w11.heap.size w11 vb := (by repeat (first | exact Below.refl _ _ | assumption | apply bl_alloc | apply bl_drewN | apply Below.drew | (refine bl_set ?_ (by first | exact Nat.le_refl _ | (simp; done) | (simp; omega)) _) | (refine bl_trans ?_ (by assumption)))); have zvb := tvb.size; have kp' : vb.heap[w.heap.size]? = some (.cells #[.int .i64 J, .slice Ads nds cds] 24 (0, 0)) := keep_blk (hb := bb) (h := by repeat (first | exact kp | exact kd | refine blk_drew ?_ | refine blk_drewN ?_ | (refine blk_new ?_; (first | rfl | (simp; done))) | refine blk_old ?_)); (try clear kp0 kp1 kpl); (try clear kp); have kp := kp'; clear kp'; obtain ⟨kp0, kp1, kpl⟩ := row_two kp; have kpvb := kpl; have kd' : vb.heap[w.heap.size + 1]? = some (.cells #[.int .i64 a, .int .i64 b, .int .i64 f] 35 (0, 0)) := keep_blk (hb := bb) (h := by repeat (first | exact kp | exact kd | refine blk_drew ?_ | refine blk_drewN ?_ | (refine blk_new ?_; (first | rfl | (simp; done))) | refine blk_old ?_)); (try clear kd0 kd1 kd2 kdl); (try clear kd); have kd := kd'; clear kd'; obtain ⟨kd0, kd1, kd2, kdl⟩ := row_three kd; have kdvb := kdl; (try (have qa' : vb.heap[w11.heap.size]? = some (.cells #[.int .i64 0, .slice none 0 0] 29 (0, 0)) := keep_blk (hb := bb) (h := by first | exact qa | exact blk_old qa | exact blk_drew qa); clear qa qa0 qa1 qaf qae qal; have qa := qa'; clear qa'; obtain ⟨qa0, qa1, qaf, qae, qal⟩ := cells_two qa (Below.refl _ _))); (try (have qb : vb.heap[va.heap.size]? = some (.cells #[.int .i64 0, .slice none 0 0] 29 (0, 0)) := keep_blk (hb := bb) (h := by first | exact blk_new (by first | rfl | (simp; done)) | (refine blk_drew ?_; exact blk_new (by first | rfl | (simp; done)))); obtain ⟨qb0, qb1, qbf, qbe, qbl⟩ := cells_two qb (Below.refl _ _); have qbk := qbl))) | (go_at_call 20; refine (implAdd _ _ nds J a b f ds ((oa.below (Below.mono (B := va.heap.size) (by repeat (first | exact Below.refl _ _ | assumption | apply bl_alloc | apply bl_drewN | apply Below.drew | (refine bl_set ?_ (by first | exact Nat.le_refl _ | (simp; done) | (simp; omega)) _) | (refine bl_trans ?_ (by assumption)))) (Nat.le_refl _))).rc) LFds.out hmds).mono ?_; rintro e vc ⟨_, _, rfl, oc, bc⟩; have tvc : Below w11.heap.size w11 vc := (by repeat (first | exact Below.refl _ _ | assumption | apply bl_alloc | apply bl_drewN | apply Below.drew | (refine bl_set ?_ (by first | exact Nat.le_refl _ | (simp; done) | (simp; omega)) _) | (refine bl_trans ?_ (by assumption)))); have zvc := tvc.size; have kp' : vc.heap[w.heap.size]? = some (.cells #[.int .i64 J, .slice Ads nds cds] 24 (0, 0)) := keep_blk (hb := bc) (h := by repeat (first | exact kp | exact kd | refine blk_drew ?_ | refine blk_drewN ?_ | (refine blk_new ?_; (first | rfl | (simp; done))) | refine blk_old ?_)); (try clear kp0 kp1 kpl); (try clear kp); have kp := kp'; clear kp'; obtain ⟨kp0, kp1, kpl⟩ := row_two kp; have kpvc := kpl; have kd' : vc.heap[w.heap.size + 1]? = some (.cells #[.int .i64 a, .int .i64 b, .int .i64 f] 35 (0, 0)) := keep_blk (hb := bc) (h := by repeat (first | exact kp | exact kd | refine blk_drew ?_ | refine blk_drewN ?_ | (refine blk_new ?_; (first | rfl | (simp; done))) | refine blk_old ?_)); (try clear kd0 kd1 kd2 kdl); (try clear kd); have kd := kd'; clear kd'; obtain ⟨kd0, kd1, kd2, kdl⟩ := row_three kd; have kdvc := kdl; (try (have qa' : vc.heap[w11.heap.size]? = some (.cells #[.int .i64 0, .slice none 0 0] 29 (0, 0)) := keep_blk (hb := bc) (h := by first | exact qa | exact blk_old qa | exact blk_drew qa); clear qa qa0 qa1 qaf qae qal; have qa := qa'; clear qa'; obtain ⟨qa0, qa1, qaf, qae, qal⟩ := cells_two qa (Below.refl _ _))); (try (have qb' : vc.heap[va.heap.size]? = some (.cells #[.int .i64 0, .slice none 0 0] 29 (0, 0)) := keep_blk (hb := bc) (h := by first | exact qb | exact blk_old qb | exact blk_drew qb); clear qb qb0 qb1 qbf qbe qbl; have qb := qb'; clear qb'; obtain ⟨qb0, qb1, qbf, qbe, qbl⟩ := cells_two qb (Below.refl _ _))); (try (have qc : vc.heap[vb.heap.size]? = some (.cells #[.int .i64 0, .slice none 0 0] 29 (0, 0)) := keep_blk (hb := bc) (h := by first | exact blk_new (by first | rfl | (simp; done)) | (refine blk_drew ?_; exact blk_new (by first | rfl | (simp; done)))); obtain ⟨qc0, qc1, qcf, qce, qcl⟩ := cells_two qc (Below.refl _ _); have qck := qcl))) | fail)
        all_goals (go_wp2_with fail; go_meet; (first | exact ⟨vc.heap.size, vb.heap.size, vc.heap.size, _, _, rfl, rfl, (by first | exact blk_new rfl | exact blk_drew (blk_new rfl)), oc.alloc _, .inr (Nat.le_refl _), (by first | omega | (simp; done) | (simp; omega)), (by first | omega | (simp; done) | (simp; omega)), (by simp), (by repeat (first | exact Below.refl _ _ | assumption | apply bl_alloc | apply bl_drewN | apply Below.drew | (refine bl_set ?_ (by first | exact Nat.le_refl _ | (simp; done) | (simp; omega)) _) | (refine bl_trans ?_ (by assumption))))⟩ | exact ⟨w11.heap.size, vb.heap.size, vc.heap.size, _, _, rfl, rfl, two_set qa, ((oc.wide (B' := vb.heap.size) (by first | exact Nat.le_refl _ | (simp; done)) (Nat.le_refl _)).far (.inl (by first | omega | (simp; done) | (simp; omega))) _).far (.inl (by first | omega | (simp; done) | (simp; omega))) _, .inl (by first | omega | (simp; done) | (simp; omega)), (by first | omega | (simp; done) | (simp; omega)), (by first | omega | (simp; done) | (simp; omega)), (by simp), (by repeat (first | exact Below.refl _ _ | assumption | apply bl_alloc | apply bl_drewN | apply Below.drew | (refine bl_set ?_ (by first | exact Nat.le_refl _ | (simp; done) | (simp; omega)) _) | (refine bl_trans ?_ (by assumption))))⟩ | exact ⟨va.heap.size, vb.heap.size, vc.heap.size, _, _, rfl, rfl, two_set qb, ((oc.wide (B' := vb.heap.size) (by first | exact Nat.le_refl _ | (simp; done)) (Nat.le_refl _)).far (.inl (by first | omega | (simp; done) | (simp; omega))) _).far (.inl (by first | omega | (simp; done) | (simp; omega))) _, .inl (by first | omega | (simp; done) | (simp; omega)), (by first | omega | (simp; done) | (simp; omega)), (by first | omega | (simp; done) | (simp; omega)), (by simp), (by repeat (first | exact Below.refl _ _ | assumption | apply bl_alloc | apply bl_drewN | apply Below.drew | (refine bl_set ?_ (by first | exact Nat.le_refl _ | (simp; done) | (simp; omega)) _) | (refine bl_trans ?_ (by assumption))))⟩ | exact ⟨vb.heap.size, vb.heap.size + 1, vc.heap.size, _, _, rfl, rfl, two_set qc, ((oc.wide (B' := vb.heap.size + 1) (by first | exact Nat.le_refl _ | (simp; done)) (Nat.le_refl _)).far (.inl (by first | omega | (simp; done) | (simp; omega))) _).far (.inl (by first | omega | (simp; done) | (simp; omega))) _, .inl (by first | omega | (simp; done) | (simp; omega)), (by first | omega | (simp; done) | (simp; omega)), (by first | omega | (simp; done) | (simp; omega)), (by simp), (by repeat (first | exact Below.refl _ _ | assumption | apply bl_alloc | apply bl_drewN | apply Below.drew | (refine bl_set ?_ (by first | exact Nat.le_refl _ | (simp; done) | (simp; omega)) _) | (refine bl_trans ?_ (by assumption))))⟩))
      case rest =>
        obtain ⟨g12, L12, H12, X12, c12, rfl, rfl, kh, o12, d12, e12, f12, h12, b12⟩ := hcut
        obtain ⟨w12, rfl⟩ : ∃ x : World, x = wc := ⟨_, rfl⟩
        have s12 : Below w11.heap.size w11 w12 := (by repeat (first | exact Below.refl _ _ | assumption | apply bl_alloc | apply bl_drewN | apply Below.drew | (refine bl_set ?_ (by first | exact Nat.le_refl _ | (simp; done) | (simp; omega)) _) | (refine bl_trans ?_ (by assumption))))
        have z12 := s12.size
        have t12 : Below w.heap.size w w12 := t11.trans (s12.mono (by omega))
        replace o2 := o2.below (s12.mono (by omega))
        replace m10 := m10.below (s12.mono (by omega))
        replace kp : w12.heap[w.heap.size]? = some (.cells #[.int .i64 J, .slice Ads nds cds] 24 (0, 0)) := keep_blk (hb := s12) (h := kp)
        clear kp0 kp1 kpl
        obtain ⟨kp0, kp1, kpl⟩ := row_two kp
        replace kd : w12.heap[w.heap.size + 1]? = some (.cells #[.int .i64 a, .int .i64 b, .int .i64 f] 35 (0, 0)) := keep_blk (hb := s12) (h := kd)
        clear kd0 kd1 kd2 kdl
        obtain ⟨kd0, kd1, kd2, kdl⟩ := row_three kd
        replace kw : w12.heap[g2]? = some (.cells #[.int .i64 (adJ J nds ds a b f), .slice X2 (adN J nds ds a b f) c2] 29 (0, 0)) := keep_blk (hb := s12) (h := kw)
        clear kw0 kw1 kwl
        obtain ⟨kw0, kw1, kwl⟩ := row_two kw
        replace kg : w12.heap[g4]? = some (.cells #[.int .i64 (adJ J nds ds a b f), .slice X4 (adN J nds ds a b f) c4] 29 (0, 0)) := keep_blk (hb := s12) (h := kg)
        clear kg0 kg1 kgl
        obtain ⟨kg0, kg1, kgl⟩ := row_two kg
        have vkh := blk_lt kh
        obtain ⟨kh0, kh1, khl⟩ := row_two kh
        go_wp2_with fail
        refine (eqNet_any _ _ _ _ _ _ _ _ ((o12.below (Below.mono (B := w12.heap.size) (by repeat (first | exact Below.refl _ _ | assumption | apply bl_alloc | apply bl_drewN | apply Below.drew | (refine bl_set ?_ (by first | exact Nat.le_refl _ | (simp; done) | (simp; omega)) _) | (refine bl_trans ?_ (by assumption)))) (by omega))).rc) ((o2.below (Below.mono (B := w12.heap.size) (by repeat (first | exact Below.refl _ _ | assumption | apply bl_alloc | apply bl_drewN | apply Below.drew | (refine bl_set ?_ (by first | exact Nat.le_refl _ | (simp; done) | (simp; omega)) _) | (refine bl_trans ?_ (by assumption)))) (by omega))).rc) (adL_len LFds.out) adN_le).mono ?_
        rintro e w13 ⟨rfl, b13⟩
        have s13 : Below w12.heap.size w12 w13 := (by repeat (first | exact Below.refl _ _ | assumption | apply bl_alloc | apply bl_drewN | apply Below.drew | (refine bl_set ?_ (by first | exact Nat.le_refl _ | (simp; done) | (simp; omega)) _) | (refine bl_trans ?_ (by assumption))))
        have z13 := s13.size
        have t13 : Below w.heap.size w w13 := t12.trans (s13.mono (by omega))
        replace o2 := o2.below (s13.mono (by omega))
        replace m10 := m10.below (s13.mono (by omega))
        replace o12 := o12.below (s13.mono (by omega))
        replace kp : w13.heap[w.heap.size]? = some (.cells #[.int .i64 J, .slice Ads nds cds] 24 (0, 0)) := keep_blk (hb := s13) (h := kp)
        clear kp0 kp1 kpl
        obtain ⟨kp0, kp1, kpl⟩ := row_two kp
        replace kd : w13.heap[w.heap.size + 1]? = some (.cells #[.int .i64 a, .int .i64 b, .int .i64 f] 35 (0, 0)) := keep_blk (hb := s13) (h := kd)
        clear kd0 kd1 kd2 kdl
        obtain ⟨kd0, kd1, kd2, kdl⟩ := row_three kd
        replace kw : w13.heap[g2]? = some (.cells #[.int .i64 (adJ J nds ds a b f), .slice X2 (adN J nds ds a b f) c2] 29 (0, 0)) := keep_blk (hb := s13) (h := kw)
        clear kw0 kw1 kwl
        obtain ⟨kw0, kw1, kwl⟩ := row_two kw
        replace kg : w13.heap[g4]? = some (.cells #[.int .i64 (adJ J nds ds a b f), .slice X4 (adN J nds ds a b f) c4] 29 (0, 0)) := keep_blk (hb := s13) (h := kg)
        clear kg0 kg1 kgl
        obtain ⟨kg0, kg1, kgl⟩ := row_two kg
        replace kh : w13.heap[g12]? = some (.cells #[.int .i64 (adJ J nds ds a b f), .slice X12 (adN J nds ds a b f) c12] 29 (0, 0)) := keep_blk (hb := s13) (h := kh)
        clear kh0 kh1 khl
        obtain ⟨kh0, kh1, khl⟩ := row_two kh
        go_wp2_with fail
        refine (heldNet_any _ _ _ _ _ _ ((m10.below (Below.mono (B := w13.heap.size) (by repeat (first | exact Below.refl _ _ | assumption | apply bl_alloc | apply bl_drewN | apply Below.drew | (refine bl_set ?_ (by first | exact Nat.le_refl _ | (simp; done) | (simp; omega)) _) | (refine bl_trans ?_ (by assumption)))) (by omega))).rc) adN_le (by omega) (by omega)).mono ?_
        rintro e w14 ⟨rfl, b14⟩
        have s14 : Below w13.heap.size w13 w14 := (by repeat (first | exact Below.refl _ _ | assumption | apply bl_alloc | apply bl_drewN | apply Below.drew | (refine bl_set ?_ (by first | exact Nat.le_refl _ | (simp; done) | (simp; omega)) _) | (refine bl_trans ?_ (by assumption))))
        have z14 := s14.size
        have t14 : Below w.heap.size w w14 := t13.trans (s14.mono (by omega))
        replace o2 := o2.below (s14.mono (by omega))
        replace m10 := m10.below (s14.mono (by omega))
        replace o12 := o12.below (s14.mono (by omega))
        replace kp : w14.heap[w.heap.size]? = some (.cells #[.int .i64 J, .slice Ads nds cds] 24 (0, 0)) := keep_blk (hb := s14) (h := kp)
        clear kp0 kp1 kpl
        obtain ⟨kp0, kp1, kpl⟩ := row_two kp
        replace kd : w14.heap[w.heap.size + 1]? = some (.cells #[.int .i64 a, .int .i64 b, .int .i64 f] 35 (0, 0)) := keep_blk (hb := s14) (h := kd)
        clear kd0 kd1 kd2 kdl
        obtain ⟨kd0, kd1, kd2, kdl⟩ := row_three kd
        replace kw : w14.heap[g2]? = some (.cells #[.int .i64 (adJ J nds ds a b f), .slice X2 (adN J nds ds a b f) c2] 29 (0, 0)) := keep_blk (hb := s14) (h := kw)
        clear kw0 kw1 kwl
        obtain ⟨kw0, kw1, kwl⟩ := row_two kw
        replace kg : w14.heap[g4]? = some (.cells #[.int .i64 (adJ J nds ds a b f), .slice X4 (adN J nds ds a b f) c4] 29 (0, 0)) := keep_blk (hb := s14) (h := kg)
        clear kg0 kg1 kgl
        obtain ⟨kg0, kg1, kgl⟩ := row_two kg
        replace kh : w14.heap[g12]? = some (.cells #[.int .i64 (adJ J nds ds a b f), .slice X12 (adN J nds ds a b f) c12] 29 (0, 0)) := keep_blk (hb := s14) (h := kh)
        clear kh0 kh1 khl
        obtain ⟨kh0, kh1, khl⟩ := row_two kh
        go_wp2
        go_ret
        exact ⟨rfl, by repeat (first | exact Below.refl _ _ | assumption | apply bl_alloc | apply bl_drewN | apply Below.drew | (refine bl_set ?_ (by first | exact Nat.le_refl _ | (simp; done) | (simp; omega)) _) | (refine bl_trans ?_ (by assumption)))⟩

theorem own : ownKnob Try.prog.godebug = none := by kernel_rfl
theorem laidOut : laidOutB Try.prog = true := by kernel_rfl
set_option maxRecDepth 100000 in
theorem lifted (os : Os) (started : os.Started) (H : Type) (enc : TypeId × Value → H) :
    ReturnsInHanded {} Try.checked os 5 .any (Rows.fnExactAddDitchSpec.pre6 enc Try.prog Try.f5 Rows.fnExactAddDitchRow.domain false) (Rows.fnExactAddDitchSpec.post enc Try.prog Try.f5 false true false false) := by
  refine returnsInHanded_of_change (C := Try.checked) own started (by kernel_rfl) Try.func5
    (ChangeSpec.witness6 (enc := enc) (C := Try.checked) false ⟨#[], #[.agg #[.int .i64 0, .slice none 0 0], .agg #[.int .i64 0, .int .i64 0, .int .i64 0]], []⟩ 8 (by kernel_rfl) (by kernel_rfl) (by kernel_rfl) (by kernel_rfl)) ?_
  intro W base args ds gs before hval0 hW hcnd _
  have hval : ∀ (j : Nat) t v, Try.f5.params[j]? = some t → args[j]? = some v → Value.okWide Try.prog W .any base t v := hval0
  have hW' := hW
  obtain ⟨p, q, hA0, hV, rfl, hfz, hnd⟩ := hW
  have hA : DataW.TrodAll enc Try.prog W 0 (fun _ => true) true Try.f5.params.toList args.toList ds p := hA0
  rw [Try.params5] at hA hval
  obtain ⟨v0, vs0, d0, ds0, p0, q0, hargs, rfl, rfl, h0, r0⟩ := trodAll_cons hA
  obtain ⟨v1, vs1, d1, ds1, p1, q1, rfl, rfl, rfl, h1, r1⟩ := trodAll_cons r0
  obtain ⟨rfl, rfl, rfl⟩ := trodAll_nil r1
  obtain rfl : args = #[v0, v1] := by cases args; simp_all
  obtain ⟨rfl, rfl⟩ := trodVars_none hV
  have k0 := h0
  have lt0 : ∀ x ∈ p0, x.block < W.heap.size := by obtain ⟨m, hm⟩ := k0; exact DataW.trod_lt m _ _ _ hm
  obtain ⟨e0_0, e0_1, y0_0, y0_1, fu0, rfl, _, _, hy0_0, hy0_1⟩ := open_agg2 Try.underlying24 (by kernel_rfl) (by kernel_rfl) (hval 0 24 v0 rfl rfl) h0
  obtain ⟨J, hc0_0, _, wJ⟩ := DataW.trod_int Try.underlying2 hy0_0
  simp only [List.cons.injEq, and_true] at hc0_0
  subst hc0_0
  obtain ⟨Ads, nds, ds, cds, hc0_1, lfds, rds, mds⟩ := open_ditches Try.underlying22 Try.underlying35 (by kernel_rfl) (by kernel_rfl) Try.underlying2 Try.underlying2 Try.underlying2 hy0_1
  simp only [List.cons.injEq, and_true] at hc0_1
  subst hc0_1
  have k1 := h1
  have lt1 : ∀ x ∈ p1, x.block < W.heap.size := by obtain ⟨m, hm⟩ := k1; exact DataW.trod_lt m _ _ _ hm
  obtain ⟨e1_0, e1_1, e1_2, y1_0, y1_1, y1_2, fu1, rfl, _, _, hy1_0, hy1_1, hy1_2⟩ := open_agg3 Try.underlying35 (by kernel_rfl) (by kernel_rfl) (hval 1 35 v1 rfl rfl) h1
  obtain ⟨a, hc1_0, _, wa⟩ := DataW.trod_int Try.underlying2 hy1_0
  simp only [List.cons.injEq, and_true] at hc1_0
  subst hc1_0
  obtain ⟨b, hc1_1, _, wb⟩ := DataW.trod_int Try.underlying2 hy1_1
  simp only [List.cons.injEq, and_true] at hc1_1
  subst hc1_1
  obtain ⟨f, hc1_2, _, wf⟩ := DataW.trod_int Try.underlying2 hy1_2
  simp only [List.cons.injEq, and_true] at hc1_2
  subst hc1_2
  refine (walk J Ads nds ds cds a b f W wJ lfds rds mds wa wb wf).mono fun e W' ⟨he, bel⟩ => ?_
  subst he
  exact ⟨_, rfl, _, _, _, [], _, [], hW', trodAll_mk1 (shut_bool Try.underlying4 _), (trodAll_cons_mk (Below.trod laidOut (by kernel_rfl) (of_decide_eq_true (by kernel_rfl)) k0 bel lt0) (trodAll_cons_mk (Below.trod laidOut (by kernel_rfl) (of_decide_eq_true (by kernel_rfl)) k1 bel lt1) trodAll_mk0)), rfl, bel.frame _, fun h => by cases h⟩
theorem over : Rows.fnExactAddDitchRow.holds Try.pinned (OpenSpec.ofChange Rows.fnExactAddDitchSpec) :=
  OpenClaim.holds_of_wide 5 Try.f5 rfl rfl rfl rfl rfl rfl rfl ⟨rfl, rfl, rfl, rfl, rfl⟩ rfl rfl rfl rfl rfl (by kernel_rfl) Try.func5 (by kernel_rfl)
    (of_decide_eq_true (by kernel_rfl)) (by unfold Func.isWrapper; first | (rw [if_pos (by decide +kernel)]; kernel_rfl) | (rw [if_neg (by decide +kernel)]; exact ⟨rfl, rfl⟩))
    (fun os started H enc _ => lifted os started H enc)
/-- the statement -/
theorem proved : Rows.FnExactAddDitchSaid := over
#print axioms proved
end Go.Proofs.Ythgdiddgooippaa.fnExactAddDitch
