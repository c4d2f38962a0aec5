/-
  The law 'FnExactJoinCurves' holds for every input: the curve with the volumes of two curves is the reference's. No condition.
  The frame follows the kit's template for such a statement; the walk is ours.
-/
import Derived.Test.YtcgnnlgakfndaaaRows
import Derived.Test.YtcgnnlgakfndaaaOnly
import Derived.Test.YtcgnnlgakfndaaaMarks
import Derived.Test.YtcgnnlgakfndaaaTwo
import Derived.Test.YtcgnnlgakfndaaaJoin
import Derived.Test.YtcgnnlgakfndaaaJoinS
import Derived.Test.YtcgnnlgakfndaaaOpen
import Derived.Lib.SmallJoins
import Derived.Deep.RegionHeld3
import Derived.Deep.DeepCutAuto
namespace Go.Proofs.Ytcgnnlgakfndaaa.fnExactJoinCurves
open Go.ChangeShapes Go.WideShapes Go.ChangeAt Go.RowKit Go.Joins
open Go.ChangeMaps (open_string shut_string)
set_option linter.unusedVariables false
set_option maxRecDepth 100000 in
set_option maxHeartbeats 8000000 in
theorem walk (Als : Option Addr) (ls : List Int) (cls : Nat) (Avs : Option Addr) (vs : List Int) (cvs : Nat) (Ams : Option Addr) (ms : List Int) (cms : Nat) (Aus : Option Addr) (us : List Int) (cus : Nat) (w : World) (rls : RC w Als (ints ls)) (mls : ls.length ≤ 9223372036854775807) (rvs : RC w Avs (ints vs)) (mvs : vs.length ≤ 9223372036854775807) (rms : RC w Ams (ints ms)) (mms : ms.length ≤ 9223372036854775807) (rus : RC w Aus (ints us)) (mus : us.length ≤ 9223372036854775807) :
    Calls Try.prog 5 #[.agg #[.slice Als (List.length ls) cls, .slice Avs (List.length vs) cvs], .agg #[.slice Ams (List.length ms) cms, .slice Aus (List.length us) cus]] w fun e w' => e = .returned (.bool true) ∧ Below w.heap.size w w' := by
  skip
  by_cases hz0 : ls.length + vs.length ≤ 1048576
  rotate_left
  · go_enter Try.func5, Try.ntmps5
    go_wp2_with fail
    refine (szCurve_no _ _ _ _ _ _ _ _ (by omega) (by omega) (by omega) mls mvs).mono ?_
    rintro e w1 ⟨rfl, b1⟩
    go_wp2
    go_ret
    exact ⟨rfl, by repeat (first | exact Below.refl _ _ | assumption | apply bl_alloc | apply bl_drewN | apply Below.drew | (refine bl_set ?_ (by first | exact Nat.le_refl _ | (simp; done) | (simp; omega)) _) | (refine bl_trans ?_ (by assumption)))⟩
  by_cases hz1 : ls.length + vs.length + ms.length + us.length ≤ 1048576
  rotate_left
  · go_enter Try.func5, Try.ntmps5
    go_wp2_with fail
    refine (szCurve_yes _ _ _ _ _ _ _ _ (by omega) (by omega)).mono ?_
    rintro e w1 ⟨rfl, b1⟩
    have kq : w1.heap[w.heap.size + 1]? = some (.cells #[.slice Ams (List.length ms) cms, .slice Aus (List.length us) cus] 42 (0, 0)) := keep_blk (hb := b1) (h := by repeat (first | (refine blk_new ?_; (first | rfl | (simp; done) | (simp; omega))) | refine blk_drewN ?_ | refine blk_drew ?_ | refine blk_old ?_))
    obtain ⟨kq0, kq1, kql⟩ := row_two kq
    go_wp2_with fail
    refine (szCurve_no _ _ _ _ _ _ _ _ (by omega) (by omega) (by omega) mms mus).mono ?_
    rintro e w2 ⟨rfl, b2⟩
    go_wp2
    go_ret
    exact ⟨rfl, by repeat (first | exact Below.refl _ _ | assumption | apply bl_alloc | apply bl_drewN | apply Below.drew | (refine bl_set ?_ (by first | exact Nat.le_refl _ | (simp; done) | (simp; omega)) _) | (refine bl_trans ?_ (by assumption)))⟩
  have hmls : (List.length ls) ≤ 1048576 := by omega
  have hmvs : (List.length vs) ≤ 1048576 := by omega
  have hmms : (List.length ms) ≤ 1048576 := by omega
  have hmus : (List.length us) ≤ 1048576 := by omega
  go_enter Try.func5, Try.ntmps5
  go_wp2_with fail
  refine (szCurve_yes _ _ _ _ _ _ _ _ (by omega) (by omega)).mono ?_
  rintro e w1 ⟨rfl, b1⟩
  have s1 : Below w.heap.size w w1 := (by repeat (first | exact Below.refl _ _ | assumption | apply bl_alloc | apply bl_drewN | apply Below.drew | (refine bl_set ?_ (by first | exact Nat.le_refl _ | (simp; done) | (simp; omega)) _) | (refine bl_trans ?_ (by assumption))))
  have z1 := s1.size
  have t1 : Below w.heap.size w w1 := s1
  have kp : w1.heap[w.heap.size]? = some (.cells #[.slice Als (List.length ls) cls, .slice Avs (List.length vs) cvs] 42 (0, 0)) := keep_blk (hb := b1) (h := by repeat (first | (refine blk_new ?_; (first | rfl | (simp; done) | (simp; omega))) | refine blk_drewN ?_ | refine blk_drew ?_ | refine blk_old ?_))
  have vkp := blk_lt kp
  obtain ⟨kp0, kp1, kpl⟩ := row_two kp
  have kqp : w1.heap[w.heap.size + 1]? = some (.cells #[.slice Ams (List.length ms) cms, .slice Aus (List.length us) cus] 42 (0, 0)) := keep_blk (hb := b1) (h := by repeat (first | (refine blk_new ?_; (first | rfl | (simp; done) | (simp; omega))) | refine blk_drewN ?_ | refine blk_drew ?_ | refine blk_old ?_))
  have vkqp := blk_lt kqp
  obtain ⟨kqp0, kqp1, kqpl⟩ := row_two kqp
  go_wp2_with fail
  refine (szCurve_yes _ _ _ _ _ _ _ _ (by omega) (by omega)).mono ?_
  rintro e w2 ⟨rfl, b2⟩
  have s2 : Below w1.heap.size w1 w2 := (by repeat (first | exact Below.refl _ _ | assumption | apply bl_alloc | apply bl_drewN | apply Below.drew | (refine bl_set ?_ (by first | exact Nat.le_refl _ | (simp; done) | (simp; omega)) _) | (refine bl_trans ?_ (by assumption))))
  have z2 := s2.size
  have t2 : Below w.heap.size w w2 := t1.trans (s2.mono (by omega))
  replace kp : w2.heap[w.heap.size]? = some (.cells #[.slice Als (List.length ls) cls, .slice Avs (List.length vs) cvs] 42 (0, 0)) := keep_blk (hb := s2) (h := kp)
  clear kp0 kp1 kpl
  obtain ⟨kp0, kp1, kpl⟩ := row_two kp
  replace kqp : w2.heap[w.heap.size + 1]? = some (.cells #[.slice Ams (List.length ms) cms, .slice Aus (List.length us) cus] 42 (0, 0)) := keep_blk (hb := s2) (h := kqp)
  clear kqp0 kqp1 kqpl
  obtain ⟨kqp0, kqp1, kqpl⟩ := row_two kqp
  go_upto_region 8 with fail
  go_cut [6, 7] (fun s6 s7 wx => ∃ (g L H : Nat) (X Y : Option Addr) (c d : Nat), s6 = .pointer (some ⟨g, 0, none⟩) ∧ s7 = .int .i64 (joC ls vs ms us) ∧ wx.heap[g]? = some (.cells #[.slice X (joL ls vs ms us).length c, .slice Y (joV ls vs ms us).length d] 32 (0, 0)) ∧ OwnC L H wx X (ints (joL ls vs ms us)) ∧ OwnC L H wx Y (ints (joV ls vs ms us)) ∧ Apart X Y ∧ (g < L ∨ H ≤ g) ∧ w2.heap.size ≤ g ∧ w2.heap.size ≤ L ∧ H ≤ wx.heap.size ∧ Below w2.heap.size w2 wx)
  case first =>
    go_region_held3 (fun w' => w'.cell? ⟨w.heap.size, 0, none⟩ = some (.slice Als (List.length ls) cls) ∧ w'.cell? ⟨w.heap.size, 1, none⟩ = some (.slice Avs (List.length vs) cvs) ∧ w'.cell? ⟨w.heap.size + 1, 0, none⟩ = some (.slice Ams (List.length ms) cms) ∧ w'.cell? ⟨w.heap.size + 1, 1, none⟩ = some (.slice Aus (List.length us) cus)) (((try dsimp only); refine ⟨?_, ?_, ?_, ?_⟩ <;> (first | ((repeat (first | with_reducible assumption | with_reducible refine kc_drew ?_ | with_reducible refine kc_drewN ?_ | with_reducible refine kc_alloc ?_ | with_reducible refine kc_set ?_ (by first | omega | (simp; done) | (simp; omega)))); done) | (simp [go_sem]; done)))) (first | (go_at_call_of 22 Als; refine (toCurve_any _ _ _ _ _ _ _ (rls.below (by repeat (first | exact Below.refl _ _ | assumption | apply bl_alloc | apply bl_drewN | apply Below.drew | (refine bl_set ?_ (by first | exact Nat.le_refl _ | (simp; done) | (simp; omega)) _) | (refine bl_trans ?_ (by assumption))))) (rvs.below (by repeat (first | exact Below.refl _ _ | assumption | apply bl_alloc | apply bl_drewN | apply Below.drew | (refine bl_set ?_ (by first | exact Nat.le_refl _ | (simp; done) | (simp; omega)) _) | (refine bl_trans ?_ (by assumption))))) hmls hmvs).mono ?_; rintro e va ⟨_, _, _, _, Ma, rfl, ga, ha, oa, pa, ba⟩; have tva : Below w2.heap.size w2 va := (by repeat (first | exact Below.refl _ _ | assumption | apply bl_alloc | apply bl_drewN | apply Below.drew | (refine bl_set ?_ (by first | exact Nat.le_refl _ | (simp; done) | (simp; omega)) _) | (refine bl_trans ?_ (by assumption)))); have zva := tva.size; have kp' : va.heap[w.heap.size]? = some (.cells #[.slice Als (List.length ls) cls, .slice Avs (List.length vs) cvs] 42 (0, 0)) := keep_blk (hb := ba) (h := by repeat (first | exact kp | exact kqp | refine blk_drew ?_ | refine blk_drewN ?_ | (refine blk_new ?_; (first | rfl | (simp; done))) | refine blk_old ?_)); (try clear kp0 kp1 kpl); (try clear kp); have kp := kp'; clear kp'; obtain ⟨kp0, kp1, kpl⟩ := row_two kp; have kpva := kpl; have kqp' : va.heap[w.heap.size + 1]? = some (.cells #[.slice Ams (List.length ms) cms, .slice Aus (List.length us) cus] 42 (0, 0)) := keep_blk (hb := ba) (h := by repeat (first | exact kp | exact kqp | refine blk_drew ?_ | refine blk_drewN ?_ | (refine blk_new ?_; (first | rfl | (simp; done))) | refine blk_old ?_)); (try clear kqp0 kqp1 kqpl); (try clear kqp); have kqp := kqp'; clear kqp'; obtain ⟨kqp0, kqp1, kqpl⟩ := row_two kqp; have kqpva := kqpl; (try (have qa : va.heap[w2.heap.size]? = some (.cells #[.slice none 0 0, .slice none 0 0] 32 (0, 0)) := keep_blk (hb := ba) (h := by first | exact blk_new (by first | rfl | (simp; done)) | (refine blk_drew ?_; exact blk_new (by first | rfl | (simp; done)))); obtain ⟨qa0, qa1, qaf, qae, qal⟩ := cells_two qa (Below.refl _ _); have qak := qal))) | (go_at_call_of 22 Ams; refine (toCurve_any _ _ _ _ _ _ _ (rms.below (by repeat (first | exact Below.refl _ _ | assumption | apply bl_alloc | apply bl_drewN | apply Below.drew | (refine bl_set ?_ (by first | exact Nat.le_refl _ | (simp; done) | (simp; omega)) _) | (refine bl_trans ?_ (by assumption))))) (rus.below (by repeat (first | exact Below.refl _ _ | assumption | apply bl_alloc | apply bl_drewN | apply Below.drew | (refine bl_set ?_ (by first | exact Nat.le_refl _ | (simp; done) | (simp; omega)) _) | (refine bl_trans ?_ (by assumption))))) hmms hmus).mono ?_; rintro e vb ⟨_, _, _, _, Mb, rfl, gb, hb, ob, pb, bb⟩; have uvb : Below va.heap.size va vb := (by repeat (first | exact Below.refl _ _ | assumption | apply bl_alloc | apply bl_drewN | apply Below.drew | (refine bl_set ?_ (by first | exact Nat.le_refl _ | (simp; done) | (simp; omega)) _) | (refine bl_trans ?_ (by assumption)))); have zab := uvb.size; have tvb : Below w2.heap.size w2 vb := (by repeat (first | exact Below.refl _ _ | assumption | apply bl_alloc | apply bl_drewN | apply Below.drew | (refine bl_set ?_ (by first | exact Nat.le_refl _ | (simp; done) | (simp; omega)) _) | (refine bl_trans ?_ (by assumption)))); have zvb := tvb.size; have kp' : vb.heap[w.heap.size]? = some (.cells #[.slice Als (List.length ls) cls, .slice Avs (List.length vs) cvs] 42 (0, 0)) := keep_blk (hb := bb) (h := by repeat (first | exact kp | exact kqp | refine blk_drew ?_ | refine blk_drewN ?_ | (refine blk_new ?_; (first | rfl | (simp; done))) | refine blk_old ?_)); (try clear kp0 kp1 kpl); (try clear kp); have kp := kp'; clear kp'; obtain ⟨kp0, kp1, kpl⟩ := row_two kp; have kpvb := kpl; have kqp' : vb.heap[w.heap.size + 1]? = some (.cells #[.slice Ams (List.length ms) cms, .slice Aus (List.length us) cus] 42 (0, 0)) := keep_blk (hb := bb) (h := by repeat (first | exact kp | exact kqp | refine blk_drew ?_ | refine blk_drewN ?_ | (refine blk_new ?_; (first | rfl | (simp; done))) | refine blk_old ?_)); (try clear kqp0 kqp1 kqpl); (try clear kqp); have kqp := kqp'; clear kqp'; obtain ⟨kqp0, kqp1, kqpl⟩ := row_two kqp; have kqpvb := kqpl; (try (have qa' : vb.heap[w2.heap.size]? = some (.cells #[.slice none 0 0, .slice none 0 0] 32 (0, 0)) := keep_blk (hb := bb) (h := by first | exact qa | exact blk_old qa | exact blk_drew qa); clear qa qa0 qa1 qaf qae qal; have qa := qa'; clear qa'; obtain ⟨qa0, qa1, qaf, qae, qal⟩ := cells_two qa (Below.refl _ _))); (try (have qb : vb.heap[va.heap.size]? = some (.cells #[.slice none 0 0, .slice none 0 0] 32 (0, 0)) := keep_blk (hb := bb) (h := by first | exact blk_new (by first | rfl | (simp; done)) | (refine blk_drew ?_; exact blk_new (by first | rfl | (simp; done)))); obtain ⟨qb0, qb1, qbf, qbe, qbl⟩ := cells_two qb (Below.refl _ _); have qbk := qbl))) | (go_at_call 21; refine (specJoin _ _ _ _ _ _ _ _ _ ls vs ms us ((oa.below (Below.mono (B := va.heap.size) (by repeat (first | exact Below.refl _ _ | assumption | apply bl_alloc | apply bl_drewN | apply Below.drew | (refine bl_set ?_ (by first | exact Nat.le_refl _ | (simp; done) | (simp; omega)) _) | (refine bl_trans ?_ (by assumption)))) (by omega))).rc) ((pa.below (Below.mono (B := va.heap.size) (by repeat (first | exact Below.refl _ _ | assumption | apply bl_alloc | apply bl_drewN | apply Below.drew | (refine bl_set ?_ (by first | exact Nat.le_refl _ | (simp; done) | (simp; omega)) _) | (refine bl_trans ?_ (by assumption)))) (by omega))).rc) ((ob.below (Below.mono (B := vb.heap.size) (by repeat (first | exact Below.refl _ _ | assumption | apply bl_alloc | apply bl_drewN | apply Below.drew | (refine bl_set ?_ (by first | exact Nat.le_refl _ | (simp; done) | (simp; omega)) _) | (refine bl_trans ?_ (by assumption)))) (by omega))).rc) ((pb.below (Below.mono (B := vb.heap.size) (by repeat (first | exact Below.refl _ _ | assumption | apply bl_alloc | apply bl_drewN | apply Below.drew | (refine bl_set ?_ (by first | exact Nat.le_refl _ | (simp; done) | (simp; omega)) _) | (refine bl_trans ?_ (by assumption)))) (by omega))).rc) hmls hmvs hmms hmus).mono ?_; rintro e vc ⟨_, _, _, _, rfl, oc, pc, apc, bc⟩; have tvc : Below w2.heap.size w2 vc := (by repeat (first | exact Below.refl _ _ | assumption | apply bl_alloc | apply bl_drewN | apply Below.drew | (refine bl_set ?_ (by first | exact Nat.le_refl _ | (simp; done) | (simp; omega)) _) | (refine bl_trans ?_ (by assumption)))); have zvc := tvc.size; have kp' : vc.heap[w.heap.size]? = some (.cells #[.slice Als (List.length ls) cls, .slice Avs (List.length vs) cvs] 42 (0, 0)) := keep_blk (hb := bc) (h := by repeat (first | exact kp | exact kqp | refine blk_drew ?_ | refine blk_drewN ?_ | (refine blk_new ?_; (first | rfl | (simp; done))) | refine blk_old ?_)); (try clear kp0 kp1 kpl); (try clear kp); have kp := kp'; clear kp'; obtain ⟨kp0, kp1, kpl⟩ := row_two kp; have kpvc := kpl; have kqp' : vc.heap[w.heap.size + 1]? = some (.cells #[.slice Ams (List.length ms) cms, .slice Aus (List.length us) cus] 42 (0, 0)) := keep_blk (hb := bc) (h := by repeat (first | exact kp | exact kqp | refine blk_drew ?_ | refine blk_drewN ?_ | (refine blk_new ?_; (first | rfl | (simp; done))) | refine blk_old ?_)); (try clear kqp0 kqp1 kqpl); (try clear kqp); have kqp := kqp'; clear kqp'; obtain ⟨kqp0, kqp1, kqpl⟩ := row_two kqp; have kqpvc := kqpl; (try (have qa' : vc.heap[w2.heap.size]? = some (.cells #[.slice none 0 0, .slice none 0 0] 32 (0, 0)) := keep_blk (hb := bc) (h := by first | exact qa | exact blk_old qa | exact blk_drew qa); clear qa qa0 qa1 qaf qae qal; have qa := qa'; clear qa'; obtain ⟨qa0, qa1, qaf, qae, qal⟩ := cells_two qa (Below.refl _ _))); (try (have qb' : vc.heap[va.heap.size]? = some (.cells #[.slice none 0 0, .slice none 0 0] 32 (0, 0)) := keep_blk (hb := bc) (h := by first | exact qb | exact blk_old qb | exact blk_drew qb); clear qb qb0 qb1 qbf qbe qbl; have qb := qb'; clear qb'; obtain ⟨qb0, qb1, qbf, qbe, qbl⟩ := cells_two qb (Below.refl _ _))); (try (have qc : vc.heap[vb.heap.size]? = some (.cells #[.slice none 0 0, .slice none 0 0] 32 (0, 0)) := keep_blk (hb := bc) (h := by first | exact blk_new (by first | rfl | (simp; done)) | (refine blk_drew ?_; exact blk_new (by first | rfl | (simp; done)))); obtain ⟨qc0, qc1, qcf, qce, qcl⟩ := cells_two qc (Below.refl _ _); have qck := qcl))) | fail)
    all_goals (go_wp2_with fail; go_meet; (first | exact ⟨vc.heap.size, vb.heap.size, vc.heap.size, _, _, _, _, rfl, rfl, (by first | exact blk_new rfl | exact blk_drew (blk_new rfl)), oc.alloc _, pc.alloc _, apc, .inr (Nat.le_refl _), (by first | omega | (simp; done) | (simp; omega)), (by first | omega | (simp; done) | (simp; omega)), (by simp), (by repeat (first | exact Below.refl _ _ | assumption | apply bl_alloc | apply bl_drewN | apply Below.drew | (refine bl_set ?_ (by first | exact Nat.le_refl _ | (simp; done) | (simp; omega)) _) | (refine bl_trans ?_ (by assumption))))⟩ | exact ⟨w2.heap.size, vb.heap.size, vc.heap.size, _, _, _, _, rfl, rfl, two_setC qa, ((oc.wide (B' := vb.heap.size) (by first | exact Nat.le_refl _ | (simp; done)) (Nat.le_refl _)).far (.inl (by first | omega | (simp; done) | (simp; omega))) _).far (.inl (by first | omega | (simp; done) | (simp; omega))) _, ((pc.wide (B' := vb.heap.size) (by first | exact Nat.le_refl _ | (simp; done)) (Nat.le_refl _)).far (.inl (by first | omega | (simp; done) | (simp; omega))) _).far (.inl (by first | omega | (simp; done) | (simp; omega))) _, apc, .inl (by first | omega | (simp; done) | (simp; omega)), (by first | omega | (simp; done) | (simp; omega)), (by first | omega | (simp; done) | (simp; omega)), (by simp), (by repeat (first | exact Below.refl _ _ | assumption | apply bl_alloc | apply bl_drewN | apply Below.drew | (refine bl_set ?_ (by first | exact Nat.le_refl _ | (simp; done) | (simp; omega)) _) | (refine bl_trans ?_ (by assumption))))⟩ | exact ⟨va.heap.size, vb.heap.size, vc.heap.size, _, _, _, _, rfl, rfl, two_setC qb, ((oc.wide (B' := vb.heap.size) (by first | exact Nat.le_refl _ | (simp; done)) (Nat.le_refl _)).far (.inl (by first | omega | (simp; done) | (simp; omega))) _).far (.inl (by first | omega | (simp; done) | (simp; omega))) _, ((pc.wide (B' := vb.heap.size) (by first | exact Nat.le_refl _ | (simp; done)) (Nat.le_refl _)).far (.inl (by first | omega | (simp; done) | (simp; omega))) _).far (.inl (by first | omega | (simp; done) | (simp; omega))) _, apc, .inl (by first | omega | (simp; done) | (simp; omega)), (by first | omega | (simp; done) | (simp; omega)), (by first | omega | (simp; done) | (simp; omega)), (by simp), (by repeat (first | exact Below.refl _ _ | assumption | apply bl_alloc | apply bl_drewN | apply Below.drew | (refine bl_set ?_ (by first | exact Nat.le_refl _ | (simp; done) | (simp; omega)) _) | (refine bl_trans ?_ (by assumption))))⟩ | exact ⟨vb.heap.size, vb.heap.size + 1, vc.heap.size, _, _, _, _, rfl, rfl, two_setC qc, ((oc.wide (B' := vb.heap.size + 1) (by first | exact Nat.le_refl _ | (simp; done)) (Nat.le_refl _)).far (.inl (by first | omega | (simp; done) | (simp; omega))) _).far (.inl (by first | omega | (simp; done) | (simp; omega))) _, ((pc.wide (B' := vb.heap.size + 1) (by first | exact Nat.le_refl _ | (simp; done)) (Nat.le_refl _)).far (.inl (by first | omega | (simp; done) | (simp; omega))) _).far (.inl (by first | omega | (simp; done) | (simp; omega))) _, apc, .inl (by first | omega | (simp; done) | (simp; omega)), (by first | omega | (simp; done) | (simp; omega)), (by first | omega | (simp; done) | (simp; omega)), (by simp), (by repeat (first | exact Below.refl _ _ | assumption | apply bl_alloc | apply bl_drewN | apply Below.drew | (refine bl_set ?_ (by first | exact Nat.le_refl _ | (simp; done) | (simp; omega)) _) | (refine bl_trans ?_ (by assumption))))⟩))
  case rest =>
    obtain ⟨g3, L3, H3, X3, Y3, c3, y3, rfl, rfl, kw, o3, p3, ap3, d3, e3, f3, h3, b3⟩ := hcut
    obtain ⟨w3, rfl⟩ : ∃ x : World, x = wc := ⟨_, rfl⟩
    have s3 : Below w2.heap.size w2 w3 := (by repeat (first | exact Below.refl _ _ | assumption | apply bl_alloc | apply bl_drewN | apply Below.drew | (refine bl_set ?_ (by first | exact Nat.le_refl _ | (simp; done) | (simp; omega)) _) | (refine bl_trans ?_ (by assumption))))
    have z3 := s3.size
    have t3 : Below w.heap.size w w3 := t2.trans (s3.mono (by omega))
    replace kp : w3.heap[w.heap.size]? = some (.cells #[.slice Als (List.length ls) cls, .slice Avs (List.length vs) cvs] 42 (0, 0)) := keep_blk (hb := s3) (h := kp)
    clear kp0 kp1 kpl
    obtain ⟨kp0, kp1, kpl⟩ := row_two kp
    replace kqp : w3.heap[w.heap.size + 1]? = some (.cells #[.slice Ams (List.length ms) cms, .slice Aus (List.length us) cus] 42 (0, 0)) := keep_blk (hb := s3) (h := kqp)
    clear kqp0 kqp1 kqpl
    obtain ⟨kqp0, kqp1, kqpl⟩ := row_two kqp
    have vkw := blk_lt kw
    obtain ⟨kw0, kw1, kwl⟩ := row_two kw
    go_wp2_with fail
    refine (toCurve_any _ _ _ _ _ _ _ (rls.below (by repeat (first | exact Below.refl _ _ | assumption | apply bl_alloc | apply bl_drewN | apply Below.drew | (refine bl_set ?_ (by first | exact Nat.le_refl _ | (simp; done) | (simp; omega)) _) | (refine bl_trans ?_ (by assumption))))) (rvs.below (by repeat (first | exact Below.refl _ _ | assumption | apply bl_alloc | apply bl_drewN | apply Below.drew | (refine bl_set ?_ (by first | exact Nat.le_refl _ | (simp; done) | (simp; omega)) _) | (refine bl_trans ?_ (by assumption))))) hmls hmvs).mono ?_
    rintro e w4 ⟨X4, c4, Y4, d4, M4, rfl, g4, h4, o4, p4, b4⟩
    have s4 : Below w3.heap.size w3 w4 := (by repeat (first | exact Below.refl _ _ | assumption | apply bl_alloc | apply bl_drewN | apply Below.drew | (refine bl_set ?_ (by first | exact Nat.le_refl _ | (simp; done) | (simp; omega)) _) | (refine bl_trans ?_ (by assumption))))
    have z4 := s4.size
    have t4 : Below w.heap.size w w4 := t3.trans (s4.mono (by omega))
    replace o3 := o3.below (s4.mono (by omega))
    replace p3 := p3.below (s4.mono (by omega))
    replace kp : w4.heap[w.heap.size]? = some (.cells #[.slice Als (List.length ls) cls, .slice Avs (List.length vs) cvs] 42 (0, 0)) := keep_blk (hb := s4) (h := kp)
    clear kp0 kp1 kpl
    obtain ⟨kp0, kp1, kpl⟩ := row_two kp
    replace kqp : w4.heap[w.heap.size + 1]? = some (.cells #[.slice Ams (List.length ms) cms, .slice Aus (List.length us) cus] 42 (0, 0)) := keep_blk (hb := s4) (h := kqp)
    clear kqp0 kqp1 kqpl
    obtain ⟨kqp0, kqp1, kqpl⟩ := row_two kqp
    replace kw : w4.heap[g3]? = some (.cells #[.slice X3 (joL ls vs ms us).length c3, .slice Y3 (joV ls vs ms us).length y3] 32 (0, 0)) := keep_blk (hb := s4) (h := kw)
    clear kw0 kw1 kwl
    obtain ⟨kw0, kw1, kwl⟩ := row_two kw
    replace o4 := o4.wide (B' := w3.heap.size) (E' := M4) (Below.size (B := w3.heap.size) (by repeat (first | exact Below.refl _ _ | assumption | apply bl_alloc | apply bl_drewN | apply Below.drew | (refine bl_set ?_ (by first | exact Nat.le_refl _ | (simp; done) | (simp; omega)) _) | (refine bl_trans ?_ (by assumption))))) (Nat.le_refl _)
    replace g4 : w3.heap.size ≤ M4 := Nat.le_trans (Below.size (B := w3.heap.size) (by repeat (first | exact Below.refl _ _ | assumption | apply bl_alloc | apply bl_drewN | apply Below.drew | (refine bl_set ?_ (by first | exact Nat.le_refl _ | (simp; done) | (simp; omega)) _) | (refine bl_trans ?_ (by assumption))))) g4
    go_wp2_with fail
    refine (toCurve_any _ _ _ _ _ _ _ (rms.below (by repeat (first | exact Below.refl _ _ | assumption | apply bl_alloc | apply bl_drewN | apply Below.drew | (refine bl_set ?_ (by first | exact Nat.le_refl _ | (simp; done) | (simp; omega)) _) | (refine bl_trans ?_ (by assumption))))) (rus.below (by repeat (first | exact Below.refl _ _ | assumption | apply bl_alloc | apply bl_drewN | apply Below.drew | (refine bl_set ?_ (by first | exact Nat.le_refl _ | (simp; done) | (simp; omega)) _) | (refine bl_trans ?_ (by assumption))))) hmms hmus).mono ?_
    rintro e w5 ⟨X5, c5, Y5, d5, M5, rfl, g5, h5, o5, p5, b5⟩
    have s5 : Below w4.heap.size w4 w5 := (by repeat (first | exact Below.refl _ _ | assumption | apply bl_alloc | apply bl_drewN | apply Below.drew | (refine bl_set ?_ (by first | exact Nat.le_refl _ | (simp; done) | (simp; omega)) _) | (refine bl_trans ?_ (by assumption))))
    have z5 := s5.size
    have t5 : Below w.heap.size w w5 := t4.trans (s5.mono (by omega))
    replace o3 := o3.below (s5.mono (by omega))
    replace p3 := p3.below (s5.mono (by omega))
    replace o4 := o4.below (s5.mono (by omega))
    replace p4 := p4.below (s5.mono (by omega))
    replace kp : w5.heap[w.heap.size]? = some (.cells #[.slice Als (List.length ls) cls, .slice Avs (List.length vs) cvs] 42 (0, 0)) := keep_blk (hb := s5) (h := kp)
    clear kp0 kp1 kpl
    obtain ⟨kp0, kp1, kpl⟩ := row_two kp
    replace kqp : w5.heap[w.heap.size + 1]? = some (.cells #[.slice Ams (List.length ms) cms, .slice Aus (List.length us) cus] 42 (0, 0)) := keep_blk (hb := s5) (h := kqp)
    clear kqp0 kqp1 kqpl
    obtain ⟨kqp0, kqp1, kqpl⟩ := row_two kqp
    replace kw : w5.heap[g3]? = some (.cells #[.slice X3 (joL ls vs ms us).length c3, .slice Y3 (joV ls vs ms us).length y3] 32 (0, 0)) := keep_blk (hb := s5) (h := kw)
    clear kw0 kw1 kwl
    obtain ⟨kw0, kw1, kwl⟩ := row_two kw
    have kx : w5.heap[w4.heap.size]? = some (.cells #[.slice X4 (List.length ls) c4, .slice Y4 (List.length vs) d4] 32 (0, 0)) := keep_blk (hb := b5) (h := by repeat (first | (refine blk_new ?_; (first | rfl | (simp; done) | (simp; omega))) | refine blk_drewN ?_ | refine blk_drew ?_ | refine blk_old ?_))
    have vkx := blk_lt kx
    obtain ⟨kx0, kx1, kxl⟩ := row_two kx
    replace o5 := o5.wide (B' := (w4.heap.size + 1)) (E' := M5) (by first | exact Nat.le_refl _ | (simp; done) | (simp; omega)) (Nat.le_refl _)
    replace g5 : (w4.heap.size + 1) ≤ M5 := Nat.le_trans (by first | exact Nat.le_refl _ | (simp; done) | (simp; omega)) g5
    go_wp2_with fail
    refine (implJoin _ _ _ _ _ _ _ _ _ ls vs ms us ((o4.below (Below.mono (B := w5.heap.size) (by repeat (first | exact Below.refl _ _ | assumption | apply bl_alloc | apply bl_drewN | apply Below.drew | (refine bl_set ?_ (by first | exact Nat.le_refl _ | (simp; done) | (simp; omega)) _) | (refine bl_trans ?_ (by assumption)))) (by omega))).rc) ((p4.below (Below.mono (B := w5.heap.size) (by repeat (first | exact Below.refl _ _ | assumption | apply bl_alloc | apply bl_drewN | apply Below.drew | (refine bl_set ?_ (by first | exact Nat.le_refl _ | (simp; done) | (simp; omega)) _) | (refine bl_trans ?_ (by assumption)))) (by omega))).rc) ((o5.below (Below.mono (B := w5.heap.size) (by repeat (first | exact Below.refl _ _ | assumption | apply bl_alloc | apply bl_drewN | apply Below.drew | (refine bl_set ?_ (by first | exact Nat.le_refl _ | (simp; done) | (simp; omega)) _) | (refine bl_trans ?_ (by assumption)))) (by omega))).rc) ((p5.below (Below.mono (B := w5.heap.size) (by repeat (first | exact Below.refl _ _ | assumption | apply bl_alloc | apply bl_drewN | apply Below.drew | (refine bl_set ?_ (by first | exact Nat.le_refl _ | (simp; done) | (simp; omega)) _) | (refine bl_trans ?_ (by assumption)))) (by omega))).rc) hmls hmvs hmms hmus).mono ?_
    rintro e w6 ⟨X6, c6, Y6, d6, rfl, o6, p6, ap6, b6⟩
    have s6 : Below w5.heap.size w5 w6 := (by repeat (first | exact Below.refl _ _ | assumption | apply bl_alloc | apply bl_drewN | apply Below.drew | (refine bl_set ?_ (by first | exact Nat.le_refl _ | (simp; done) | (simp; omega)) _) | (refine bl_trans ?_ (by assumption))))
    have z6 := s6.size
    have t6 : Below w.heap.size w w6 := t5.trans (s6.mono (by omega))
    replace o3 := o3.below (s6.mono (by omega))
    replace p3 := p3.below (s6.mono (by omega))
    replace o4 := o4.below (s6.mono (by omega))
    replace p4 := p4.below (s6.mono (by omega))
    replace o5 := o5.below (s6.mono (by omega))
    replace p5 := p5.below (s6.mono (by omega))
    replace kp : w6.heap[w.heap.size]? = some (.cells #[.slice Als (List.length ls) cls, .slice Avs (List.length vs) cvs] 42 (0, 0)) := keep_blk (hb := s6) (h := kp)
    clear kp0 kp1 kpl
    obtain ⟨kp0, kp1, kpl⟩ := row_two kp
    replace kqp : w6.heap[w.heap.size + 1]? = some (.cells #[.slice Ams (List.length ms) cms, .slice Aus (List.length us) cus] 42 (0, 0)) := keep_blk (hb := s6) (h := kqp)
    clear kqp0 kqp1 kqpl
    obtain ⟨kqp0, kqp1, kqpl⟩ := row_two kqp
    replace kw : w6.heap[g3]? = some (.cells #[.slice X3 (joL ls vs ms us).length c3, .slice Y3 (joV ls vs ms us).length y3] 32 (0, 0)) := keep_blk (hb := s6) (h := kw)
    clear kw0 kw1 kwl
    obtain ⟨kw0, kw1, kwl⟩ := row_two kw
    replace kx : w6.heap[w4.heap.size]? = some (.cells #[.slice X4 (List.length ls) c4, .slice Y4 (List.length vs) d4] 32 (0, 0)) := keep_blk (hb := s6) (h := kx)
    clear kx0 kx1 kxl
    obtain ⟨kx0, kx1, kxl⟩ := row_two kx
    have kyx : w6.heap[w5.heap.size]? = some (.cells #[.slice X5 (List.length ms) c5, .slice Y5 (List.length us) d5] 32 (0, 0)) := keep_blk (hb := b6) (h := by repeat (first | (refine blk_new ?_; (first | rfl | (simp; done) | (simp; omega))) | refine blk_drewN ?_ | refine blk_drew ?_ | refine blk_old ?_))
    have vkyx := blk_lt kyx
    obtain ⟨kyx0, kyx1, kyxl⟩ := row_two kyx
    replace o6 := o6.wide (B' := (w5.heap.size + 1)) (E' := w6.heap.size) (by first | exact Nat.le_refl _ | (simp; done) | (simp; omega)) (Nat.le_refl _)
    replace p6 := p6.wide (B' := (w5.heap.size + 1)) (E' := w6.heap.size) (by first | exact Nat.le_refl _ | (simp; done) | (simp; omega)) (Nat.le_refl _)
    go_wp2_with fail
    refine (eqCurve_any _ _ _ _ _ _ _ _ _ _ _ ((o6.below (Below.mono (B := w6.heap.size) (by repeat (first | exact Below.refl _ _ | assumption | apply bl_alloc | apply bl_drewN | apply Below.drew | (refine bl_set ?_ (by first | exact Nat.le_refl _ | (simp; done) | (simp; omega)) _) | (refine bl_trans ?_ (by assumption)))) (by omega))).rc) ((p6.below (Below.mono (B := w6.heap.size) (by repeat (first | exact Below.refl _ _ | assumption | apply bl_alloc | apply bl_drewN | apply Below.drew | (refine bl_set ?_ (by first | exact Nat.le_refl _ | (simp; done) | (simp; omega)) _) | (refine bl_trans ?_ (by assumption)))) (by omega))).rc) ((o3.below (Below.mono (B := w6.heap.size) (by repeat (first | exact Below.refl _ _ | assumption | apply bl_alloc | apply bl_drewN | apply Below.drew | (refine bl_set ?_ (by first | exact Nat.le_refl _ | (simp; done) | (simp; omega)) _) | (refine bl_trans ?_ (by assumption)))) (by omega))).rc) ((p3.below (Below.mono (B := w6.heap.size) (by repeat (first | exact Below.refl _ _ | assumption | apply bl_alloc | apply bl_drewN | apply Below.drew | (refine bl_set ?_ (by first | exact Nat.le_refl _ | (simp; done) | (simp; omega)) _) | (refine bl_trans ?_ (by assumption)))) (by omega))).rc) (Nat.le_trans (joL_len ls vs ms us) (by decide)) (Nat.le_trans (Nat.le_trans (Nat.le_of_eq (joV_len ls vs ms us)) (joL_len ls vs ms us)) (by decide))).mono ?_
    rintro e w7 ⟨rfl, b7⟩
    have s7 : Below w6.heap.size w6 w7 := (by repeat (first | exact Below.refl _ _ | assumption | apply bl_alloc | apply bl_drewN | apply Below.drew | (refine bl_set ?_ (by first | exact Nat.le_refl _ | (simp; done) | (simp; omega)) _) | (refine bl_trans ?_ (by assumption))))
    have z7 := s7.size
    have t7 : Below w.heap.size w w7 := t6.trans (s7.mono (by omega))
    replace o3 := o3.below (s7.mono (by omega))
    replace p3 := p3.below (s7.mono (by omega))
    replace o4 := o4.below (s7.mono (by omega))
    replace p4 := p4.below (s7.mono (by omega))
    replace o5 := o5.below (s7.mono (by omega))
    replace p5 := p5.below (s7.mono (by omega))
    replace o6 := o6.below (s7.mono (by omega))
    replace p6 := p6.below (s7.mono (by omega))
    replace kp : w7.heap[w.heap.size]? = some (.cells #[.slice Als (List.length ls) cls, .slice Avs (List.length vs) cvs] 42 (0, 0)) := keep_blk (hb := s7) (h := kp)
    clear kp0 kp1 kpl
    obtain ⟨kp0, kp1, kpl⟩ := row_two kp
    replace kqp : w7.heap[w.heap.size + 1]? = some (.cells #[.slice Ams (List.length ms) cms, .slice Aus (List.length us) cus] 42 (0, 0)) := keep_blk (hb := s7) (h := kqp)
    clear kqp0 kqp1 kqpl
    obtain ⟨kqp0, kqp1, kqpl⟩ := row_two kqp
    replace kw : w7.heap[g3]? = some (.cells #[.slice X3 (joL ls vs ms us).length c3, .slice Y3 (joV ls vs ms us).length y3] 32 (0, 0)) := keep_blk (hb := s7) (h := kw)
    clear kw0 kw1 kwl
    obtain ⟨kw0, kw1, kwl⟩ := row_two kw
    replace kx : w7.heap[w4.heap.size]? = some (.cells #[.slice X4 (List.length ls) c4, .slice Y4 (List.length vs) d4] 32 (0, 0)) := keep_blk (hb := s7) (h := kx)
    clear kx0 kx1 kxl
    obtain ⟨kx0, kx1, kxl⟩ := row_two kx
    replace kyx : w7.heap[w5.heap.size]? = some (.cells #[.slice X5 (List.length ms) c5, .slice Y5 (List.length us) d5] 32 (0, 0)) := keep_blk (hb := s7) (h := kyx)
    clear kyx0 kyx1 kyxl
    obtain ⟨kyx0, kyx1, kyxl⟩ := row_two kyx
    have kg : w7.heap[w6.heap.size]? = some (.cells #[.slice X6 (joL ls vs ms us).length c6, .slice Y6 (joV ls vs ms us).length d6] 32 (0, 0)) := keep_blk (hb := b7) (h := by repeat (first | (refine blk_new ?_; (first | rfl | (simp; done) | (simp; omega))) | refine blk_drewN ?_ | refine blk_drew ?_ | refine blk_old ?_))
    have vkg := blk_lt kg
    obtain ⟨kg0, kg1, kgl⟩ := row_two kg
    go_wp2_with fail
    go_region_held3 (fun w' => w'.cell? ⟨w4.heap.size, 0, none⟩ = some (.slice X4 (List.length ls) c4) ∧ w'.cell? ⟨w4.heap.size, 1, none⟩ = some (.slice Y4 (List.length vs) d4) ∧ w'.cell? ⟨w.heap.size, 0, none⟩ = some (.slice Als (List.length ls) cls) ∧ w'.cell? ⟨w.heap.size, 1, none⟩ = some (.slice Avs (List.length vs) cvs)) (((try dsimp only); refine ⟨?_, ?_, ?_, ?_⟩ <;> (repeat (first | with_reducible assumption | with_reducible refine kc_drew ?_ | with_reducible refine kc_drewN ?_ | with_reducible refine kc_alloc ?_ | with_reducible refine kc_set ?_ (by first | omega | (simp; done) | (simp; omega)))))) (first | (go_at_call 22; refine (toCurve_any _ _ _ _ _ _ _ (rls.below (by repeat (first | exact Below.refl _ _ | assumption | apply bl_alloc | apply bl_drewN | apply Below.drew | (refine bl_set ?_ (by first | exact Nat.le_refl _ | (simp; done) | (simp; omega)) _) | (refine bl_trans ?_ (by assumption))))) (rvs.below (by repeat (first | exact Below.refl _ _ | assumption | apply bl_alloc | apply bl_drewN | apply Below.drew | (refine bl_set ?_ (by first | exact Nat.le_refl _ | (simp; done) | (simp; omega)) _) | (refine bl_trans ?_ (by assumption))))) hmls hmvs).mono ?_; rintro e w8 ⟨X8, c8, Y8, d8, M8, rfl, g8, h8, o8, p8, b8⟩; have s8 : Below w7.heap.size w7 w8 := (by repeat (first | exact Below.refl _ _ | assumption | apply bl_alloc | apply bl_drewN | apply Below.drew | (refine bl_set ?_ (by first | exact Nat.le_refl _ | (simp; done) | (simp; omega)) _) | (refine bl_trans ?_ (by assumption)))); have z8 := s8.size; have t8 : Below w.heap.size w w8 := t7.trans (s8.mono (by omega)); replace o3 := o3.below (s8.mono (by omega)); replace p3 := p3.below (s8.mono (by omega)); replace o4 := o4.below (s8.mono (by omega)); replace p4 := p4.below (s8.mono (by omega)); replace o5 := o5.below (s8.mono (by omega)); replace p5 := p5.below (s8.mono (by omega)); replace o6 := o6.below (s8.mono (by omega)); replace p6 := p6.below (s8.mono (by omega)); replace kp : w8.heap[w.heap.size]? = some (.cells #[.slice Als (List.length ls) cls, .slice Avs (List.length vs) cvs] 42 (0, 0)) := keep_blk (hb := s8) (h := kp); clear kp0 kp1 kpl; obtain ⟨kp0, kp1, kpl⟩ := row_two kp; replace kqp : w8.heap[w.heap.size + 1]? = some (.cells #[.slice Ams (List.length ms) cms, .slice Aus (List.length us) cus] 42 (0, 0)) := keep_blk (hb := s8) (h := kqp); clear kqp0 kqp1 kqpl; obtain ⟨kqp0, kqp1, kqpl⟩ := row_two kqp; replace kw : w8.heap[g3]? = some (.cells #[.slice X3 (joL ls vs ms us).length c3, .slice Y3 (joV ls vs ms us).length y3] 32 (0, 0)) := keep_blk (hb := s8) (h := kw); clear kw0 kw1 kwl; obtain ⟨kw0, kw1, kwl⟩ := row_two kw; replace kx : w8.heap[w4.heap.size]? = some (.cells #[.slice X4 (List.length ls) c4, .slice Y4 (List.length vs) d4] 32 (0, 0)) := keep_blk (hb := s8) (h := kx); clear kx0 kx1 kxl; obtain ⟨kx0, kx1, kxl⟩ := row_two kx; replace kyx : w8.heap[w5.heap.size]? = some (.cells #[.slice X5 (List.length ms) c5, .slice Y5 (List.length us) d5] 32 (0, 0)) := keep_blk (hb := s8) (h := kyx); clear kyx0 kyx1 kyxl; obtain ⟨kyx0, kyx1, kyxl⟩ := row_two kyx; replace kg : w8.heap[w6.heap.size]? = some (.cells #[.slice X6 (joL ls vs ms us).length c6, .slice Y6 (joV ls vs ms us).length d6] 32 (0, 0)) := keep_blk (hb := s8) (h := kg); clear kg0 kg1 kgl; obtain ⟨kg0, kg1, kgl⟩ := row_two kg; replace o8 := o8.wide (B' := w7.heap.size) (E' := M8) (Below.size (B := w7.heap.size) (by repeat (first | exact Below.refl _ _ | assumption | apply bl_alloc | apply bl_drewN | apply Below.drew | (refine bl_set ?_ (by first | exact Nat.le_refl _ | (simp; done) | (simp; omega)) _) | (refine bl_trans ?_ (by assumption))))) (Nat.le_refl _); replace g8 : w7.heap.size ≤ M8 := Nat.le_trans (Below.size (B := w7.heap.size) (by repeat (first | exact Below.refl _ _ | assumption | apply bl_alloc | apply bl_drewN | apply Below.drew | (refine bl_set ?_ (by first | exact Nat.le_refl _ | (simp; done) | (simp; omega)) _) | (refine bl_trans ?_ (by assumption))))) g8) | (go_at_call 15; refine (eqCurve_any _ _ _ _ _ _ _ _ _ _ _ ((o4.below (Below.mono (B := w8.heap.size) (by repeat (first | exact Below.refl _ _ | assumption | apply bl_alloc | apply bl_drewN | apply Below.drew | (refine bl_set ?_ (by first | exact Nat.le_refl _ | (simp; done) | (simp; omega)) _) | (refine bl_trans ?_ (by assumption)))) (by omega))).rc) ((p4.below (Below.mono (B := w8.heap.size) (by repeat (first | exact Below.refl _ _ | assumption | apply bl_alloc | apply bl_drewN | apply Below.drew | (refine bl_set ?_ (by first | exact Nat.le_refl _ | (simp; done) | (simp; omega)) _) | (refine bl_trans ?_ (by assumption)))) (by omega))).rc) ((o8.below (Below.mono (B := w8.heap.size) (by repeat (first | exact Below.refl _ _ | assumption | apply bl_alloc | apply bl_drewN | apply Below.drew | (refine bl_set ?_ (by first | exact Nat.le_refl _ | (simp; done) | (simp; omega)) _) | (refine bl_trans ?_ (by assumption)))) (by omega))).rc) ((p8.below (Below.mono (B := w8.heap.size) (by repeat (first | exact Below.refl _ _ | assumption | apply bl_alloc | apply bl_drewN | apply Below.drew | (refine bl_set ?_ (by first | exact Nat.le_refl _ | (simp; done) | (simp; omega)) _) | (refine bl_trans ?_ (by assumption)))) (by omega))).rc) hmls hmvs).mono ?_; rintro e w9 ⟨rfl, b9⟩; have s9 : Below w8.heap.size w8 w9 := (by repeat (first | exact Below.refl _ _ | assumption | apply bl_alloc | apply bl_drewN | apply Below.drew | (refine bl_set ?_ (by first | exact Nat.le_refl _ | (simp; done) | (simp; omega)) _) | (refine bl_trans ?_ (by assumption)))); have z9 := s9.size; have t9 : Below w.heap.size w w9 := t8.trans (s9.mono (by omega)); replace o3 := o3.below (s9.mono (by omega)); replace p3 := p3.below (s9.mono (by omega)); replace o4 := o4.below (s9.mono (by omega)); replace p4 := p4.below (s9.mono (by omega)); replace o5 := o5.below (s9.mono (by omega)); replace p5 := p5.below (s9.mono (by omega)); replace o6 := o6.below (s9.mono (by omega)); replace p6 := p6.below (s9.mono (by omega)); replace o8 := o8.below (s9.mono (by omega)); replace p8 := p8.below (s9.mono (by omega)); replace kp : w9.heap[w.heap.size]? = some (.cells #[.slice Als (List.length ls) cls, .slice Avs (List.length vs) cvs] 42 (0, 0)) := keep_blk (hb := s9) (h := kp); clear kp0 kp1 kpl; obtain ⟨kp0, kp1, kpl⟩ := row_two kp; replace kqp : w9.heap[w.heap.size + 1]? = some (.cells #[.slice Ams (List.length ms) cms, .slice Aus (List.length us) cus] 42 (0, 0)) := keep_blk (hb := s9) (h := kqp); clear kqp0 kqp1 kqpl; obtain ⟨kqp0, kqp1, kqpl⟩ := row_two kqp; replace kw : w9.heap[g3]? = some (.cells #[.slice X3 (joL ls vs ms us).length c3, .slice Y3 (joV ls vs ms us).length y3] 32 (0, 0)) := keep_blk (hb := s9) (h := kw); clear kw0 kw1 kwl; obtain ⟨kw0, kw1, kwl⟩ := row_two kw; replace kx : w9.heap[w4.heap.size]? = some (.cells #[.slice X4 (List.length ls) c4, .slice Y4 (List.length vs) d4] 32 (0, 0)) := keep_blk (hb := s9) (h := kx); clear kx0 kx1 kxl; obtain ⟨kx0, kx1, kxl⟩ := row_two kx; replace kyx : w9.heap[w5.heap.size]? = some (.cells #[.slice X5 (List.length ms) c5, .slice Y5 (List.length us) d5] 32 (0, 0)) := keep_blk (hb := s9) (h := kyx); clear kyx0 kyx1 kyxl; obtain ⟨kyx0, kyx1, kyxl⟩ := row_two kyx; replace kg : w9.heap[w6.heap.size]? = some (.cells #[.slice X6 (joL ls vs ms us).length c6, .slice Y6 (joV ls vs ms us).length d6] 32 (0, 0)) := keep_blk (hb := s9) (h := kg); clear kg0 kg1 kgl; obtain ⟨kg0, kg1, kgl⟩ := row_two kg))
    clear o8 p8
    go_wp2_with fail
    go_region_held3 (fun w' => w'.cell? ⟨w5.heap.size, 0, none⟩ = some (.slice X5 (List.length ms) c5) ∧ w'.cell? ⟨w5.heap.size, 1, none⟩ = some (.slice Y5 (List.length us) d5) ∧ w'.cell? ⟨w.heap.size + 1, 0, none⟩ = some (.slice Ams (List.length ms) cms) ∧ w'.cell? ⟨w.heap.size + 1, 1, none⟩ = some (.slice Aus (List.length us) cus)) (((try dsimp only); refine ⟨?_, ?_, ?_, ?_⟩ <;> (repeat (first | with_reducible assumption | with_reducible refine kc_drew ?_ | with_reducible refine kc_drewN ?_ | with_reducible refine kc_alloc ?_ | with_reducible refine kc_set ?_ (by first | omega | (simp; done) | (simp; omega)))))) (first | (go_at_call 22; refine (toCurve_any _ _ _ _ _ _ _ (rms.below (by repeat (first | exact Below.refl _ _ | assumption | apply bl_alloc | apply bl_drewN | apply Below.drew | (refine bl_set ?_ (by first | exact Nat.le_refl _ | (simp; done) | (simp; omega)) _) | (refine bl_trans ?_ (by assumption))))) (rus.below (by repeat (first | exact Below.refl _ _ | assumption | apply bl_alloc | apply bl_drewN | apply Below.drew | (refine bl_set ?_ (by first | exact Nat.le_refl _ | (simp; done) | (simp; omega)) _) | (refine bl_trans ?_ (by assumption))))) hmms hmus).mono ?_; rintro e w10 ⟨X10, c10, Y10, d10, M10, rfl, g10, h10, o10, p10, b10⟩; have s10 : Below w9.heap.size w9 w10 := (by repeat (first | exact Below.refl _ _ | assumption | apply bl_alloc | apply bl_drewN | apply Below.drew | (refine bl_set ?_ (by first | exact Nat.le_refl _ | (simp; done) | (simp; omega)) _) | (refine bl_trans ?_ (by assumption)))); have z10 := s10.size; have t10 : Below w.heap.size w w10 := t9.trans (s10.mono (by omega)); replace o3 := o3.below (s10.mono (by omega)); replace p3 := p3.below (s10.mono (by omega)); replace o4 := o4.below (s10.mono (by omega)); replace p4 := p4.below (s10.mono (by omega)); replace o5 := o5.below (s10.mono (by omega)); replace p5 := p5.below (s10.mono (by omega)); replace o6 := o6.below (s10.mono (by omega)); replace p6 := p6.below (s10.mono (by omega)); replace kp : w10.heap[w.heap.size]? = some (.cells #[.slice Als (List.length ls) cls, .slice Avs (List.length vs) cvs] 42 (0, 0)) := keep_blk (hb := s10) (h := kp); clear kp0 kp1 kpl; obtain ⟨kp0, kp1, kpl⟩ := row_two kp; replace kqp : w10.heap[w.heap.size + 1]? = some (.cells #[.slice Ams (List.length ms) cms, .slice Aus (List.length us) cus] 42 (0, 0)) := keep_blk (hb := s10) (h := kqp); clear kqp0 kqp1 kqpl; obtain ⟨kqp0, kqp1, kqpl⟩ := row_two kqp; replace kw : w10.heap[g3]? = some (.cells #[.slice X3 (joL ls vs ms us).length c3, .slice Y3 (joV ls vs ms us).length y3] 32 (0, 0)) := keep_blk (hb := s10) (h := kw); clear kw0 kw1 kwl; obtain ⟨kw0, kw1, kwl⟩ := row_two kw; replace kx : w10.heap[w4.heap.size]? = some (.cells #[.slice X4 (List.length ls) c4, .slice Y4 (List.length vs) d4] 32 (0, 0)) := keep_blk (hb := s10) (h := kx); clear kx0 kx1 kxl; obtain ⟨kx0, kx1, kxl⟩ := row_two kx; replace kyx : w10.heap[w5.heap.size]? = some (.cells #[.slice X5 (List.length ms) c5, .slice Y5 (List.length us) d5] 32 (0, 0)) := keep_blk (hb := s10) (h := kyx); clear kyx0 kyx1 kyxl; obtain ⟨kyx0, kyx1, kyxl⟩ := row_two kyx; replace kg : w10.heap[w6.heap.size]? = some (.cells #[.slice X6 (joL ls vs ms us).length c6, .slice Y6 (joV ls vs ms us).length d6] 32 (0, 0)) := keep_blk (hb := s10) (h := kg); clear kg0 kg1 kgl; obtain ⟨kg0, kg1, kgl⟩ := row_two kg; replace o10 := o10.wide (B' := w9.heap.size) (E' := M10) (Below.size (B := w9.heap.size) (by repeat (first | exact Below.refl _ _ | assumption | apply bl_alloc | apply bl_drewN | apply Below.drew | (refine bl_set ?_ (by first | exact Nat.le_refl _ | (simp; done) | (simp; omega)) _) | (refine bl_trans ?_ (by assumption))))) (Nat.le_refl _); replace g10 : w9.heap.size ≤ M10 := Nat.le_trans (Below.size (B := w9.heap.size) (by repeat (first | exact Below.refl _ _ | assumption | apply bl_alloc | apply bl_drewN | apply Below.drew | (refine bl_set ?_ (by first | exact Nat.le_refl _ | (simp; done) | (simp; omega)) _) | (refine bl_trans ?_ (by assumption))))) g10) | (go_at_call 15; refine (eqCurve_any _ _ _ _ _ _ _ _ _ _ _ ((o5.below (Below.mono (B := w10.heap.size) (by repeat (first | exact Below.refl _ _ | assumption | apply bl_alloc | apply bl_drewN | apply Below.drew | (refine bl_set ?_ (by first | exact Nat.le_refl _ | (simp; done) | (simp; omega)) _) | (refine bl_trans ?_ (by assumption)))) (by omega))).rc) ((p5.below (Below.mono (B := w10.heap.size) (by repeat (first | exact Below.refl _ _ | assumption | apply bl_alloc | apply bl_drewN | apply Below.drew | (refine bl_set ?_ (by first | exact Nat.le_refl _ | (simp; done) | (simp; omega)) _) | (refine bl_trans ?_ (by assumption)))) (by omega))).rc) ((o10.below (Below.mono (B := w10.heap.size) (by repeat (first | exact Below.refl _ _ | assumption | apply bl_alloc | apply bl_drewN | apply Below.drew | (refine bl_set ?_ (by first | exact Nat.le_refl _ | (simp; done) | (simp; omega)) _) | (refine bl_trans ?_ (by assumption)))) (by omega))).rc) ((p10.below (Below.mono (B := w10.heap.size) (by repeat (first | exact Below.refl _ _ | assumption | apply bl_alloc | apply bl_drewN | apply Below.drew | (refine bl_set ?_ (by first | exact Nat.le_refl _ | (simp; done) | (simp; omega)) _) | (refine bl_trans ?_ (by assumption)))) (by omega))).rc) hmms hmus).mono ?_; rintro e w11 ⟨rfl, b11⟩; have s11 : Below w10.heap.size w10 w11 := (by repeat (first | exact Below.refl _ _ | assumption | apply bl_alloc | apply bl_drewN | apply Below.drew | (refine bl_set ?_ (by first | exact Nat.le_refl _ | (simp; done) | (simp; omega)) _) | (refine bl_trans ?_ (by assumption)))); have z11 := s11.size; have t11 : Below w.heap.size w w11 := t10.trans (s11.mono (by omega)); replace o3 := o3.below (s11.mono (by omega)); replace p3 := p3.below (s11.mono (by omega)); replace o4 := o4.below (s11.mono (by omega)); replace p4 := p4.below (s11.mono (by omega)); replace o5 := o5.below (s11.mono (by omega)); replace p5 := p5.below (s11.mono (by omega)); replace o6 := o6.below (s11.mono (by omega)); replace p6 := p6.below (s11.mono (by omega)); replace o10 := o10.below (s11.mono (by omega)); replace p10 := p10.below (s11.mono (by omega)); replace kp : w11.heap[w.heap.size]? = some (.cells #[.slice Als (List.length ls) cls, .slice Avs (List.length vs) cvs] 42 (0, 0)) := keep_blk (hb := s11) (h := kp); clear kp0 kp1 kpl; obtain ⟨kp0, kp1, kpl⟩ := row_two kp; replace kqp : w11.heap[w.heap.size + 1]? = some (.cells #[.slice Ams (List.length ms) cms, .slice Aus (List.length us) cus] 42 (0, 0)) := keep_blk (hb := s11) (h := kqp); clear kqp0 kqp1 kqpl; obtain ⟨kqp0, kqp1, kqpl⟩ := row_two kqp; replace kw : w11.heap[g3]? = some (.cells #[.slice X3 (joL ls vs ms us).length c3, .slice Y3 (joV ls vs ms us).length y3] 32 (0, 0)) := keep_blk (hb := s11) (h := kw); clear kw0 kw1 kwl; obtain ⟨kw0, kw1, kwl⟩ := row_two kw; replace kx : w11.heap[w4.heap.size]? = some (.cells #[.slice X4 (List.length ls) c4, .slice Y4 (List.length vs) d4] 32 (0, 0)) := keep_blk (hb := s11) (h := kx); clear kx0 kx1 kxl; obtain ⟨kx0, kx1, kxl⟩ := row_two kx; replace kyx : w11.heap[w5.heap.size]? = some (.cells #[.slice X5 (List.length ms) c5, .slice Y5 (List.length us) d5] 32 (0, 0)) := keep_blk (hb := s11) (h := kyx); clear kyx0 kyx1 kyxl; obtain ⟨kyx0, kyx1, kyxl⟩ := row_two kyx; replace kg : w11.heap[w6.heap.size]? = some (.cells #[.slice X6 (joL ls vs ms us).length c6, .slice Y6 (joV ls vs ms us).length d6] 32 (0, 0)) := keep_blk (hb := s11) (h := kg); clear kg0 kg1 kgl; obtain ⟨kg0, kg1, kgl⟩ := row_two kg))
    clear o10 p10
    go_wp2_with fail
    refine (markCurve_any _ _ _ _ _ _ _ _ _ _ _ _ _ (o4.below (Below.mono (B := w11.heap.size) (by repeat (first | exact Below.refl _ _ | assumption | apply bl_alloc | apply bl_drewN | apply Below.drew | (refine bl_set ?_ (by first | exact Nat.le_refl _ | (simp; done) | (simp; omega)) _) | (refine bl_trans ?_ (by assumption)))) (by omega))) (ints_len _) (p4.below (Below.mono (B := w11.heap.size) (by repeat (first | exact Below.refl _ _ | assumption | apply bl_alloc | apply bl_drewN | apply Below.drew | (refine bl_set ?_ (by first | exact Nat.le_refl _ | (simp; done) | (simp; omega)) _) | (refine bl_trans ?_ (by assumption)))) (by omega))) (ints_len _) (by omega) (by omega) (by first | omega | exact Nat.le_trans (by omega : _ ≤ w11.heap.size) (Below.size (by repeat (first | exact Below.refl _ _ | assumption | apply bl_alloc | apply bl_drewN | apply Below.drew | (refine bl_set ?_ (by first | exact Nat.le_refl _ | (simp; done) | (simp; omega)) _) | (refine bl_trans ?_ (by assumption)))))) hmls hmvs (by omega) (by omega)).mono ?_
    rintro e w12 ⟨rfl, q12, m12, n12⟩
    have Q12 : OnlyR w3.heap.size w4.heap.size w11 w12 := OnlyR.pre (by repeat (first | exact Below.refl _ _ | assumption | apply bl_alloc | apply bl_drewN | apply Below.drew | (refine bl_set ?_ (by first | exact Nat.le_refl _ | (simp; done) | (simp; omega)) _) | (refine bl_trans ?_ (by assumption)))) q12
    have z12 := Q12.size
    have t12 : Below w.heap.size w w12 := t11.trans (Q12.below (by omega) (by omega))
    replace o3 := o3.onlyR Q12 (by omega)
    replace p3 := p3.onlyR Q12 (by omega)
    replace o5 := o5.onlyR Q12 (by omega)
    replace p5 := p5.onlyR Q12 (by omega)
    replace o6 := o6.onlyR Q12 (by omega)
    replace p6 := p6.onlyR Q12 (by omega)
    replace kp : w12.heap[w.heap.size]? = some (.cells #[.slice Als (List.length ls) cls, .slice Avs (List.length vs) cvs] 42 (0, 0)) := keep_onlyR kp Q12 (by first | omega | (simp; omega))
    clear kp0 kp1 kpl
    obtain ⟨kp0, kp1, kpl⟩ := row_two kp
    replace kqp : w12.heap[w.heap.size + 1]? = some (.cells #[.slice Ams (List.length ms) cms, .slice Aus (List.length us) cus] 42 (0, 0)) := keep_onlyR kqp Q12 (by first | omega | (simp; omega))
    clear kqp0 kqp1 kqpl
    obtain ⟨kqp0, kqp1, kqpl⟩ := row_two kqp
    replace kw : w12.heap[g3]? = some (.cells #[.slice X3 (joL ls vs ms us).length c3, .slice Y3 (joV ls vs ms us).length y3] 32 (0, 0)) := keep_onlyR kw Q12 (by first | omega | (simp; omega))
    clear kw0 kw1 kwl
    obtain ⟨kw0, kw1, kwl⟩ := row_two kw
    replace kx : w12.heap[w4.heap.size]? = some (.cells #[.slice X4 (List.length ls) c4, .slice Y4 (List.length vs) d4] 32 (0, 0)) := keep_onlyR kx Q12 (by first | omega | (simp; omega))
    clear kx0 kx1 kxl
    obtain ⟨kx0, kx1, kxl⟩ := row_two kx
    replace kyx : w12.heap[w5.heap.size]? = some (.cells #[.slice X5 (List.length ms) c5, .slice Y5 (List.length us) d5] 32 (0, 0)) := keep_onlyR kyx Q12 (by first | omega | (simp; omega))
    clear kyx0 kyx1 kyxl
    obtain ⟨kyx0, kyx1, kyxl⟩ := row_two kyx
    replace kg : w12.heap[w6.heap.size]? = some (.cells #[.slice X6 (joL ls vs ms us).length c6, .slice Y6 (joV ls vs ms us).length d6] 32 (0, 0)) := keep_onlyR kg Q12 (by first | omega | (simp; omega))
    clear kg0 kg1 kgl
    obtain ⟨kg0, kg1, kgl⟩ := row_two kg
    clear o4 p4
    go_wp2_with fail
    refine (markCurve_any _ _ _ _ _ _ _ _ _ _ _ _ _ (o5.below (Below.mono (B := w12.heap.size) (by repeat (first | exact Below.refl _ _ | assumption | apply bl_alloc | apply bl_drewN | apply Below.drew | (refine bl_set ?_ (by first | exact Nat.le_refl _ | (simp; done) | (simp; omega)) _) | (refine bl_trans ?_ (by assumption)))) (by omega))) (ints_len _) (p5.below (Below.mono (B := w12.heap.size) (by repeat (first | exact Below.refl _ _ | assumption | apply bl_alloc | apply bl_drewN | apply Below.drew | (refine bl_set ?_ (by first | exact Nat.le_refl _ | (simp; done) | (simp; omega)) _) | (refine bl_trans ?_ (by assumption)))) (by omega))) (ints_len _) (by omega) (by omega) (by first | omega | exact Nat.le_trans (by omega : _ ≤ w12.heap.size) (Below.size (by repeat (first | exact Below.refl _ _ | assumption | apply bl_alloc | apply bl_drewN | apply Below.drew | (refine bl_set ?_ (by first | exact Nat.le_refl _ | (simp; done) | (simp; omega)) _) | (refine bl_trans ?_ (by assumption)))))) hmms hmus (by omega) (by omega)).mono ?_
    rintro e w13 ⟨rfl, q13, m13, n13⟩
    have Q13 : OnlyR (w4.heap.size + 1) w5.heap.size w12 w13 := OnlyR.pre (by repeat (first | exact Below.refl _ _ | assumption | apply bl_alloc | apply bl_drewN | apply Below.drew | (refine bl_set ?_ (by first | exact Nat.le_refl _ | (simp; done) | (simp; omega)) _) | (refine bl_trans ?_ (by assumption)))) q13
    have z13 := Q13.size
    have t13 : Below w.heap.size w w13 := t12.trans (Q13.below (by omega) (by omega))
    replace o3 := o3.onlyR Q13 (by omega)
    replace p3 := p3.onlyR Q13 (by omega)
    replace o6 := o6.onlyR Q13 (by omega)
    replace p6 := p6.onlyR Q13 (by omega)
    replace m12 := m12.onlyR Q13 (by omega)
    replace n12 := n12.onlyR Q13 (by omega)
    replace kp : w13.heap[w.heap.size]? = some (.cells #[.slice Als (List.length ls) cls, .slice Avs (List.length vs) cvs] 42 (0, 0)) := keep_onlyR kp Q13 (by first | omega | (simp; omega))
    clear kp0 kp1 kpl
    obtain ⟨kp0, kp1, kpl⟩ := row_two kp
    replace kqp : w13.heap[w.heap.size + 1]? = some (.cells #[.slice Ams (List.length ms) cms, .slice Aus (List.length us) cus] 42 (0, 0)) := keep_onlyR kqp Q13 (by first | omega | (simp; omega))
    clear kqp0 kqp1 kqpl
    obtain ⟨kqp0, kqp1, kqpl⟩ := row_two kqp
    replace kw : w13.heap[g3]? = some (.cells #[.slice X3 (joL ls vs ms us).length c3, .slice Y3 (joV ls vs ms us).length y3] 32 (0, 0)) := keep_onlyR kw Q13 (by first | omega | (simp; omega))
    clear kw0 kw1 kwl
    obtain ⟨kw0, kw1, kwl⟩ := row_two kw
    replace kx : w13.heap[w4.heap.size]? = some (.cells #[.slice X4 (List.length ls) c4, .slice Y4 (List.length vs) d4] 32 (0, 0)) := keep_onlyR kx Q13 (by first | omega | (simp; omega))
    clear kx0 kx1 kxl
    obtain ⟨kx0, kx1, kxl⟩ := row_two kx
    replace kyx : w13.heap[w5.heap.size]? = some (.cells #[.slice X5 (List.length ms) c5, .slice Y5 (List.length us) d5] 32 (0, 0)) := keep_onlyR kyx Q13 (by first | omega | (simp; omega))
    clear kyx0 kyx1 kyxl
    obtain ⟨kyx0, kyx1, kyxl⟩ := row_two kyx
    replace kg : w13.heap[w6.heap.size]? = some (.cells #[.slice X6 (joL ls vs ms us).length c6, .slice Y6 (joV ls vs ms us).length d6] 32 (0, 0)) := keep_onlyR kg Q13 (by first | omega | (simp; omega))
    clear kg0 kg1 kgl
    obtain ⟨kg0, kg1, kgl⟩ := row_two kg
    clear o5 p5
    go_wp2_with fail
    refine (eqCurve_any _ _ _ _ _ _ _ _ _ _ _ ((o6.below (Below.mono (B := w13.heap.size) (by repeat (first | exact Below.refl _ _ | assumption | apply bl_alloc | apply bl_drewN | apply Below.drew | (refine bl_set ?_ (by first | exact Nat.le_refl _ | (simp; done) | (simp; omega)) _) | (refine bl_trans ?_ (by assumption)))) (by omega))).rc) ((p6.below (Below.mono (B := w13.heap.size) (by repeat (first | exact Below.refl _ _ | assumption | apply bl_alloc | apply bl_drewN | apply Below.drew | (refine bl_set ?_ (by first | exact Nat.le_refl _ | (simp; done) | (simp; omega)) _) | (refine bl_trans ?_ (by assumption)))) (by omega))).rc) ((o3.below (Below.mono (B := w13.heap.size) (by repeat (first | exact Below.refl _ _ | assumption | apply bl_alloc | apply bl_drewN | apply Below.drew | (refine bl_set ?_ (by first | exact Nat.le_refl _ | (simp; done) | (simp; omega)) _) | (refine bl_trans ?_ (by assumption)))) (by omega))).rc) ((p3.below (Below.mono (B := w13.heap.size) (by repeat (first | exact Below.refl _ _ | assumption | apply bl_alloc | apply bl_drewN | apply Below.drew | (refine bl_set ?_ (by first | exact Nat.le_refl _ | (simp; done) | (simp; omega)) _) | (refine bl_trans ?_ (by assumption)))) (by omega))).rc) (Nat.le_trans (joL_len ls vs ms us) (by decide)) (Nat.le_trans (Nat.le_trans (Nat.le_of_eq (joV_len ls vs ms us)) (joL_len ls vs ms us)) (by decide))).mono ?_
    rintro e w14 ⟨rfl, b14⟩
    have s14 : Below w13.heap.size w13 w14 := (by repeat (first | exact Below.refl _ _ | assumption | apply bl_alloc | apply bl_drewN | apply Below.drew | (refine bl_set ?_ (by first | exact Nat.le_refl _ | (simp; done) | (simp; omega)) _) | (refine bl_trans ?_ (by assumption))))
    have z14 := s14.size
    have t14 : Below w.heap.size w w14 := t13.trans (s14.mono (by omega))
    replace o3 := o3.below (s14.mono (by omega))
    replace p3 := p3.below (s14.mono (by omega))
    replace o6 := o6.below (s14.mono (by omega))
    replace p6 := p6.below (s14.mono (by omega))
    replace m12 := m12.below (s14.mono (by omega))
    replace n12 := n12.below (s14.mono (by omega))
    replace m13 := m13.below (s14.mono (by omega))
    replace n13 := n13.below (s14.mono (by omega))
    replace kp : w14.heap[w.heap.size]? = some (.cells #[.slice Als (List.length ls) cls, .slice Avs (List.length vs) cvs] 42 (0, 0)) := keep_blk (hb := s14) (h := kp)
    clear kp0 kp1 kpl
    obtain ⟨kp0, kp1, kpl⟩ := row_two kp
    replace kqp : w14.heap[w.heap.size + 1]? = some (.cells #[.slice Ams (List.length ms) cms, .slice Aus (List.length us) cus] 42 (0, 0)) := keep_blk (hb := s14) (h := kqp)
    clear kqp0 kqp1 kqpl
    obtain ⟨kqp0, kqp1, kqpl⟩ := row_two kqp
    replace kw : w14.heap[g3]? = some (.cells #[.slice X3 (joL ls vs ms us).length c3, .slice Y3 (joV ls vs ms us).length y3] 32 (0, 0)) := keep_blk (hb := s14) (h := kw)
    clear kw0 kw1 kwl
    obtain ⟨kw0, kw1, kwl⟩ := row_two kw
    replace kx : w14.heap[w4.heap.size]? = some (.cells #[.slice X4 (List.length ls) c4, .slice Y4 (List.length vs) d4] 32 (0, 0)) := keep_blk (hb := s14) (h := kx)
    clear kx0 kx1 kxl
    obtain ⟨kx0, kx1, kxl⟩ := row_two kx
    replace kyx : w14.heap[w5.heap.size]? = some (.cells #[.slice X5 (List.length ms) c5, .slice Y5 (List.length us) d5] 32 (0, 0)) := keep_blk (hb := s14) (h := kyx)
    clear kyx0 kyx1 kyxl
    obtain ⟨kyx0, kyx1, kyxl⟩ := row_two kyx
    replace kg : w14.heap[w6.heap.size]? = some (.cells #[.slice X6 (joL ls vs ms us).length c6, .slice Y6 (joV ls vs ms us).length d6] 32 (0, 0)) := keep_blk (hb := s14) (h := kg)
    clear kg0 kg1 kgl
    obtain ⟨kg0, kg1, kgl⟩ := row_two kg
    go_wp2_with fail
    refine (markCurveD_any _ _ _ _ _ _ _ _ _ _ _ _ (o6.below (Below.mono (B := w14.heap.size) (by repeat (first | exact Below.refl _ _ | assumption | apply bl_alloc | apply bl_drewN | apply Below.drew | (refine bl_set ?_ (by first | exact Nat.le_refl _ | (simp; done) | (simp; omega)) _) | (refine bl_trans ?_ (by assumption)))) (by omega))) (ints_len _) (p6.below (Below.mono (B := w14.heap.size) (by repeat (first | exact Below.refl _ _ | assumption | apply bl_alloc | apply bl_drewN | apply Below.drew | (refine bl_set ?_ (by first | exact Nat.le_refl _ | (simp; done) | (simp; omega)) _) | (refine bl_trans ?_ (by assumption)))) (by omega))) (ints_len _) ap6 (by first | omega | exact Nat.le_trans (by omega : _ ≤ w14.heap.size) (Below.size (by repeat (first | exact Below.refl _ _ | assumption | apply bl_alloc | apply bl_drewN | apply Below.drew | (refine bl_set ?_ (by first | exact Nat.le_refl _ | (simp; done) | (simp; omega)) _) | (refine bl_trans ?_ (by assumption)))))) (Nat.le_trans (joL_len ls vs ms us) (by decide)) (Nat.le_trans (Nat.le_trans (Nat.le_of_eq (joV_len ls vs ms us)) (joL_len ls vs ms us)) (by decide)) (by omega) (by omega)).mono ?_
    rintro e w15 ⟨rfl, q15, m15, n15⟩
    have Q15 : OnlyR (w5.heap.size + 1) w6.heap.size w14 w15 := OnlyR.pre (by repeat (first | exact Below.refl _ _ | assumption | apply bl_alloc | apply bl_drewN | apply Below.drew | (refine bl_set ?_ (by first | exact Nat.le_refl _ | (simp; done) | (simp; omega)) _) | (refine bl_trans ?_ (by assumption)))) q15
    have z15 := Q15.size
    have t15 : Below w.heap.size w w15 := t14.trans (Q15.below (by omega) (by omega))
    replace o3 := o3.onlyR Q15 (by omega)
    replace p3 := p3.onlyR Q15 (by omega)
    replace m12 := m12.onlyR Q15 (by omega)
    replace n12 := n12.onlyR Q15 (by omega)
    replace m13 := m13.onlyR Q15 (by omega)
    replace n13 := n13.onlyR Q15 (by omega)
    replace kp : w15.heap[w.heap.size]? = some (.cells #[.slice Als (List.length ls) cls, .slice Avs (List.length vs) cvs] 42 (0, 0)) := keep_onlyR kp Q15 (by first | omega | (simp; omega))
    clear kp0 kp1 kpl
    obtain ⟨kp0, kp1, kpl⟩ := row_two kp
    replace kqp : w15.heap[w.heap.size + 1]? = some (.cells #[.slice Ams (List.length ms) cms, .slice Aus (List.length us) cus] 42 (0, 0)) := keep_onlyR kqp Q15 (by first | omega | (simp; omega))
    clear kqp0 kqp1 kqpl
    obtain ⟨kqp0, kqp1, kqpl⟩ := row_two kqp
    replace kw : w15.heap[g3]? = some (.cells #[.slice X3 (joL ls vs ms us).length c3, .slice Y3 (joV ls vs ms us).length y3] 32 (0, 0)) := keep_onlyR kw Q15 (by first | omega | (simp; omega))
    clear kw0 kw1 kwl
    obtain ⟨kw0, kw1, kwl⟩ := row_two kw
    replace kx : w15.heap[w4.heap.size]? = some (.cells #[.slice X4 (List.length ls) c4, .slice Y4 (List.length vs) d4] 32 (0, 0)) := keep_onlyR kx Q15 (by first | omega | (simp; omega))
    clear kx0 kx1 kxl
    obtain ⟨kx0, kx1, kxl⟩ := row_two kx
    replace kyx : w15.heap[w5.heap.size]? = some (.cells #[.slice X5 (List.length ms) c5, .slice Y5 (List.length us) d5] 32 (0, 0)) := keep_onlyR kyx Q15 (by first | omega | (simp; omega))
    clear kyx0 kyx1 kyxl
    obtain ⟨kyx0, kyx1, kyxl⟩ := row_two kyx
    replace kg : w15.heap[w6.heap.size]? = some (.cells #[.slice X6 (joL ls vs ms us).length c6, .slice Y6 (joV ls vs ms us).length d6] 32 (0, 0)) := keep_onlyR kg Q15 (by first | omega | (simp; omega))
    clear kg0 kg1 kgl
    obtain ⟨kg0, kg1, kgl⟩ := row_two kg
    clear o6 p6
    go_wp2_with fail
    refine (heldCurve_any _ _ _ _ _ _ _ _ ((m15.below (Below.mono (B := w15.heap.size) (by repeat (first | exact Below.refl _ _ | assumption | apply bl_alloc | apply bl_drewN | apply Below.drew | (refine bl_set ?_ (by first | exact Nat.le_refl _ | (simp; done) | (simp; omega)) _) | (refine bl_trans ?_ (by assumption)))) (by omega))).rc) ((n15.below (Below.mono (B := w15.heap.size) (by repeat (first | exact Below.refl _ _ | assumption | apply bl_alloc | apply bl_drewN | apply Below.drew | (refine bl_set ?_ (by first | exact Nat.le_refl _ | (simp; done) | (simp; omega)) _) | (refine bl_trans ?_ (by assumption)))) (by omega))).rc) (Nat.le_trans (joL_len ls vs ms us) (by decide)) (Nat.le_trans (Nat.le_trans (Nat.le_of_eq (joV_len ls vs ms us)) (joL_len ls vs ms us)) (by decide)) (by omega) (by omega)).mono ?_
    rintro e w16 ⟨rfl, b16⟩
    have s16 : Below w15.heap.size w15 w16 := (by repeat (first | exact Below.refl _ _ | assumption | apply bl_alloc | apply bl_drewN | apply Below.drew | (refine bl_set ?_ (by first | exact Nat.le_refl _ | (simp; done) | (simp; omega)) _) | (refine bl_trans ?_ (by assumption))))
    have z16 := s16.size
    have t16 : Below w.heap.size w w16 := t15.trans (s16.mono (by omega))
    replace o3 := o3.below (s16.mono (by omega))
    replace p3 := p3.below (s16.mono (by omega))
    replace m12 := m12.below (s16.mono (by omega))
    replace n12 := n12.below (s16.mono (by omega))
    replace m13 := m13.below (s16.mono (by omega))
    replace n13 := n13.below (s16.mono (by omega))
    replace m15 := m15.below (s16.mono (by omega))
    replace n15 := n15.below (s16.mono (by omega))
    replace kp : w16.heap[w.heap.size]? = some (.cells #[.slice Als (List.length ls) cls, .slice Avs (List.length vs) cvs] 42 (0, 0)) := keep_blk (hb := s16) (h := kp)
    clear kp0 kp1 kpl
    obtain ⟨kp0, kp1, kpl⟩ := row_two kp
    replace kqp : w16.heap[w.heap.size + 1]? = some (.cells #[.slice Ams (List.length ms) cms, .slice Aus (List.length us) cus] 42 (0, 0)) := keep_blk (hb := s16) (h := kqp)
    clear kqp0 kqp1 kqpl
    obtain ⟨kqp0, kqp1, kqpl⟩ := row_two kqp
    replace kw : w16.heap[g3]? = some (.cells #[.slice X3 (joL ls vs ms us).length c3, .slice Y3 (joV ls vs ms us).length y3] 32 (0, 0)) := keep_blk (hb := s16) (h := kw)
    clear kw0 kw1 kwl
    obtain ⟨kw0, kw1, kwl⟩ := row_two kw
    replace kx : w16.heap[w4.heap.size]? = some (.cells #[.slice X4 (List.length ls) c4, .slice Y4 (List.length vs) d4] 32 (0, 0)) := keep_blk (hb := s16) (h := kx)
    clear kx0 kx1 kxl
    obtain ⟨kx0, kx1, kxl⟩ := row_two kx
    replace kyx : w16.heap[w5.heap.size]? = some (.cells #[.slice X5 (List.length ms) c5, .slice Y5 (List.length us) d5] 32 (0, 0)) := keep_blk (hb := s16) (h := kyx)
    clear kyx0 kyx1 kyxl
    obtain ⟨kyx0, kyx1, kyxl⟩ := row_two kyx
    replace kg : w16.heap[w6.heap.size]? = some (.cells #[.slice X6 (joL ls vs ms us).length c6, .slice Y6 (joV ls vs ms us).length d6] 32 (0, 0)) := keep_blk (hb := s16) (h := kg)
    clear kg0 kg1 kgl
    obtain ⟨kg0, kg1, kgl⟩ := row_two kg
    clear m12 n12 m13 n13
    go_upto_region 31 with fail
    go_cut [15, 16] (fun s6 s7 wx => ∃ (g L H : Nat) (X Y : Option Addr) (c d : Nat), s6 = .pointer (some ⟨g, 0, none⟩) ∧ s7 = .int .i64 (joC ls vs ms us) ∧ wx.heap[g]? = some (.cells #[.slice X (joL ls vs ms us).length c, .slice Y (joV ls vs ms us).length d] 32 (0, 0)) ∧ OwnC L H wx X (ints (joL ls vs ms us)) ∧ OwnC L H wx Y (ints (joV ls vs ms us)) ∧ Apart X Y ∧ (g < L ∨ H ≤ g) ∧ w16.heap.size ≤ g ∧ w16.heap.size ≤ L ∧ H ≤ wx.heap.size ∧ Below w16.heap.size w16 wx)
    case first =>
      go_region_held3 (fun w' => w'.cell? ⟨w.heap.size, 0, none⟩ = some (.slice Als (List.length ls) cls) ∧ w'.cell? ⟨w.heap.size, 1, none⟩ = some (.slice Avs (List.length vs) cvs) ∧ w'.cell? ⟨w.heap.size + 1, 0, none⟩ = some (.slice Ams (List.length ms) cms) ∧ w'.cell? ⟨w.heap.size + 1, 1, none⟩ = some (.slice Aus (List.length us) cus)) (((try dsimp only); refine ⟨?_, ?_, ?_, ?_⟩ <;> (first | ((repeat (first | with_reducible assumption | with_reducible refine kc_drew ?_ | with_reducible refine kc_drewN ?_ | with_reducible refine kc_alloc ?_ | with_reducible refine kc_set ?_ (by first | omega | (simp; done) | (simp; omega)))); done) | (simp [go_sem]; done)))) (first | (go_at_call_of 22 Als; refine (toCurve_any _ _ _ _ _ _ _ (rls.below (by repeat (first | exact Below.refl _ _ | assumption | apply bl_alloc | apply bl_drewN | apply Below.drew | (refine bl_set ?_ (by first | exact Nat.le_refl _ | (simp; done) | (simp; omega)) _) | (refine bl_trans ?_ (by assumption))))) (rvs.below (by repeat (first | exact Below.refl _ _ | assumption | apply bl_alloc | apply bl_drewN | apply Below.drew | (refine bl_set ?_ (by first | exact Nat.le_refl _ | (simp; done) | (simp; omega)) _) | (refine bl_trans ?_ (by assumption))))) hmls hmvs).mono ?_; rintro e va ⟨_, _, _, _, Ma, rfl, ga, ha, oa, pa, ba⟩; have tva : Below w16.heap.size w16 va := (by repeat (first | exact Below.refl _ _ | assumption | apply bl_alloc | apply bl_drewN | apply Below.drew | (refine bl_set ?_ (by first | exact Nat.le_refl _ | (simp; done) | (simp; omega)) _) | (refine bl_trans ?_ (by assumption)))); have zva := tva.size; have kp' : va.heap[w.heap.size]? = some (.cells #[.slice Als (List.length ls) cls, .slice Avs (List.length vs) cvs] 42 (0, 0)) := keep_blk (hb := ba) (h := by repeat (first | exact kp | exact kqp | refine blk_drew ?_ | refine blk_drewN ?_ | (refine blk_new ?_; (first | rfl | (simp; done))) | refine blk_old ?_)); (try clear kp0 kp1 kpl); (try clear kp); have kp := kp'; clear kp'; obtain ⟨kp0, kp1, kpl⟩ := row_two kp; have kpva := kpl; have kqp' : va.heap[w.heap.size + 1]? = some (.cells #[.slice Ams (List.length ms) cms, .slice Aus (List.length us) cus] 42 (0, 0)) := keep_blk (hb := ba) (h := by repeat (first | exact kp | exact kqp | refine blk_drew ?_ | refine blk_drewN ?_ | (refine blk_new ?_; (first | rfl | (simp; done))) | refine blk_old ?_)); (try clear kqp0 kqp1 kqpl); (try clear kqp); have kqp := kqp'; clear kqp'; obtain ⟨kqp0, kqp1, kqpl⟩ := row_two kqp; have kqpva := kqpl; (try (have qa : va.heap[w16.heap.size]? = some (.cells #[.slice none 0 0, .slice none 0 0] 32 (0, 0)) := keep_blk (hb := ba) (h := by first | exact blk_new (by first | rfl | (simp; done)) | (refine blk_drew ?_; exact blk_new (by first | rfl | (simp; done)))); obtain ⟨qa0, qa1, qaf, qae, qal⟩ := cells_two qa (Below.refl _ _); have qak := qal))) | (go_at_call_of 22 Ams; refine (toCurve_any _ _ _ _ _ _ _ (rms.below (by repeat (first | exact Below.refl _ _ | assumption | apply bl_alloc | apply bl_drewN | apply Below.drew | (refine bl_set ?_ (by first | exact Nat.le_refl _ | (simp; done) | (simp; omega)) _) | (refine bl_trans ?_ (by assumption))))) (rus.below (by repeat (first | exact Below.refl _ _ | assumption | apply bl_alloc | apply bl_drewN | apply Below.drew | (refine bl_set ?_ (by first | exact Nat.le_refl _ | (simp; done) | (simp; omega)) _) | (refine bl_trans ?_ (by assumption))))) hmms hmus).mono ?_; rintro e vb ⟨_, _, _, _, Mb, rfl, gb, hb, ob, pb, bb⟩; have uvb : Below va.heap.size va vb := (by repeat (first | exact Below.refl _ _ | assumption | apply bl_alloc | apply bl_drewN | apply Below.drew | (refine bl_set ?_ (by first | exact Nat.le_refl _ | (simp; done) | (simp; omega)) _) | (refine bl_trans ?_ (by assumption)))); have zab := uvb.size; have tvb : Below w16.heap.size w16 vb := (by repeat (first | exact Below.refl _ _ | assumption | apply bl_alloc | apply bl_drewN | apply Below.drew | (refine bl_set ?_ (by first | exact Nat.le_refl _ | (simp; done) | (simp; omega)) _) | (refine bl_trans ?_ (by assumption)))); have zvb := tvb.size; have kp' : vb.heap[w.heap.size]? = some (.cells #[.slice Als (List.length ls) cls, .slice Avs (List.length vs) cvs] 42 (0, 0)) := keep_blk (hb := bb) (h := by repeat (first | exact kp | exact kqp | refine blk_drew ?_ | refine blk_drewN ?_ | (refine blk_new ?_; (first | rfl | (simp; done))) | refine blk_old ?_)); (try clear kp0 kp1 kpl); (try clear kp); have kp := kp'; clear kp'; obtain ⟨kp0, kp1, kpl⟩ := row_two kp; have kpvb := kpl; have kqp' : vb.heap[w.heap.size + 1]? = some (.cells #[.slice Ams (List.length ms) cms, .slice Aus (List.length us) cus] 42 (0, 0)) := keep_blk (hb := bb) (h := by repeat (first | exact kp | exact kqp | refine blk_drew ?_ | refine blk_drewN ?_ | (refine blk_new ?_; (first | rfl | (simp; done))) | refine blk_old ?_)); (try clear kqp0 kqp1 kqpl); (try clear kqp); have kqp := kqp'; clear kqp'; obtain ⟨kqp0, kqp1, kqpl⟩ := row_two kqp; have kqpvb := kqpl; (try (have qa' : vb.heap[w16.heap.size]? = some (.cells #[.slice none 0 0, .slice none 0 0] 32 (0, 0)) := keep_blk (hb := bb) (h := by first | exact qa | exact blk_old qa | exact blk_drew qa); clear qa qa0 qa1 qaf qae qal; have qa := qa'; clear qa'; obtain ⟨qa0, qa1, qaf, qae, qal⟩ := cells_two qa (Below.refl _ _))); (try (have qb : vb.heap[va.heap.size]? = some (.cells #[.slice none 0 0, .slice none 0 0] 32 (0, 0)) := keep_blk (hb := bb) (h := by first | exact blk_new (by first | rfl | (simp; done)) | (refine blk_drew ?_; exact blk_new (by first | rfl | (simp; done)))); obtain ⟨qb0, qb1, qbf, qbe, qbl⟩ := cells_two qb (Below.refl _ _); have qbk := qbl))) | (go_at_call 23; refine (implJoin _ _ _ _ _ _ _ _ _ ls vs ms us ((oa.below (Below.mono (B := va.heap.size) (by repeat (first | exact Below.refl _ _ | assumption | apply bl_alloc | apply bl_drewN | apply Below.drew | (refine bl_set ?_ (by first | exact Nat.le_refl _ | (simp; done) | (simp; omega)) _) | (refine bl_trans ?_ (by assumption)))) (by omega))).rc) ((pa.below (Below.mono (B := va.heap.size) (by repeat (first | exact Below.refl _ _ | assumption | apply bl_alloc | apply bl_drewN | apply Below.drew | (refine bl_set ?_ (by first | exact Nat.le_refl _ | (simp; done) | (simp; omega)) _) | (refine bl_trans ?_ (by assumption)))) (by omega))).rc) ((ob.below (Below.mono (B := vb.heap.size) (by repeat (first | exact Below.refl _ _ | assumption | apply bl_alloc | apply bl_drewN | apply Below.drew | (refine bl_set ?_ (by first | exact Nat.le_refl _ | (simp; done) | (simp; omega)) _) | (refine bl_trans ?_ (by assumption)))) (by omega))).rc) ((pb.below (Below.mono (B := vb.heap.size) (by repeat (first | exact Below.refl _ _ | assumption | apply bl_alloc | apply bl_drewN | apply Below.drew | (refine bl_set ?_ (by first | exact Nat.le_refl _ | (simp; done) | (simp; omega)) _) | (refine bl_trans ?_ (by assumption)))) (by omega))).rc) hmls hmvs hmms hmus).mono ?_; rintro e vc ⟨_, _, _, _, rfl, oc, pc, apc, bc⟩; have tvc : Below w16.heap.size w16 vc := (by repeat (first | exact Below.refl _ _ | assumption | apply bl_alloc | apply bl_drewN | apply Below.drew | (refine bl_set ?_ (by first | exact Nat.le_refl _ | (simp; done) | (simp; omega)) _) | (refine bl_trans ?_ (by assumption)))); have zvc := tvc.size; have kp' : vc.heap[w.heap.size]? = some (.cells #[.slice Als (List.length ls) cls, .slice Avs (List.length vs) cvs] 42 (0, 0)) := keep_blk (hb := bc) (h := by repeat (first | exact kp | exact kqp | refine blk_drew ?_ | refine blk_drewN ?_ | (refine blk_new ?_; (first | rfl | (simp; done))) | refine blk_old ?_)); (try clear kp0 kp1 kpl); (try clear kp); have kp := kp'; clear kp'; obtain ⟨kp0, kp1, kpl⟩ := row_two kp; have kpvc := kpl; have kqp' : vc.heap[w.heap.size + 1]? = some (.cells #[.slice Ams (List.length ms) cms, .slice Aus (List.length us) cus] 42 (0, 0)) := keep_blk (hb := bc) (h := by repeat (first | exact kp | exact kqp | refine blk_drew ?_ | refine blk_drewN ?_ | (refine blk_new ?_; (first | rfl | (simp; done))) | refine blk_old ?_)); (try clear kqp0 kqp1 kqpl); (try clear kqp); have kqp := kqp'; clear kqp'; obtain ⟨kqp0, kqp1, kqpl⟩ := row_two kqp; have kqpvc := kqpl; (try (have qa' : vc.heap[w16.heap.size]? = some (.cells #[.slice none 0 0, .slice none 0 0] 32 (0, 0)) := keep_blk (hb := bc) (h := by first | exact qa | exact blk_old qa | exact blk_drew qa); clear qa qa0 qa1 qaf qae qal; have qa := qa'; clear qa'; obtain ⟨qa0, qa1, qaf, qae, qal⟩ := cells_two qa (Below.refl _ _))); (try (have qb' : vc.heap[va.heap.size]? = some (.cells #[.slice none 0 0, .slice none 0 0] 32 (0, 0)) := keep_blk (hb := bc) (h := by first | exact qb | exact blk_old qb | exact blk_drew qb); clear qb qb0 qb1 qbf qbe qbl; have qb := qb'; clear qb'; obtain ⟨qb0, qb1, qbf, qbe, qbl⟩ := cells_two qb (Below.refl _ _))); (try (have qc : vc.heap[vb.heap.size]? = some (.cells #[.slice none 0 0, .slice none 0 0] 32 (0, 0)) := keep_blk (hb := bc) (h := by first | exact blk_new (by first | rfl | (simp; done)) | (refine blk_drew ?_; exact blk_new (by first | rfl | (simp; done)))); obtain ⟨qc0, qc1, qcf, qce, qcl⟩ := cells_two qc (Below.refl _ _); have qck := qcl))) | fail)
      all_goals (go_wp2_with fail; go_meet; (first | exact ⟨vc.heap.size, vb.heap.size, vc.heap.size, _, _, _, _, rfl, rfl, (by first | exact blk_new rfl | exact blk_drew (blk_new rfl)), oc.alloc _, pc.alloc _, apc, .inr (Nat.le_refl _), (by first | omega | (simp; done) | (simp; omega)), (by first | omega | (simp; done) | (simp; omega)), (by simp), (by repeat (first | exact Below.refl _ _ | assumption | apply bl_alloc | apply bl_drewN | apply Below.drew | (refine bl_set ?_ (by first | exact Nat.le_refl _ | (simp; done) | (simp; omega)) _) | (refine bl_trans ?_ (by assumption))))⟩ | exact ⟨w16.heap.size, vb.heap.size, vc.heap.size, _, _, _, _, rfl, rfl, two_setC qa, ((oc.wide (B' := vb.heap.size) (by first | exact Nat.le_refl _ | (simp; done)) (Nat.le_refl _)).far (.inl (by first | omega | (simp; done) | (simp; omega))) _).far (.inl (by first | omega | (simp; done) | (simp; omega))) _, ((pc.wide (B' := vb.heap.size) (by first | exact Nat.le_refl _ | (simp; done)) (Nat.le_refl _)).far (.inl (by first | omega | (simp; done) | (simp; omega))) _).far (.inl (by first | omega | (simp; done) | (simp; omega))) _, apc, .inl (by first | omega | (simp; done) | (simp; omega)), (by first | omega | (simp; done) | (simp; omega)), (by first | omega | (simp; done) | (simp; omega)), (by simp), (by repeat (first | exact Below.refl _ _ | assumption | apply bl_alloc | apply bl_drewN | apply Below.drew | (refine bl_set ?_ (by first | exact Nat.le_refl _ | (simp; done) | (simp; omega)) _) | (refine bl_trans ?_ (by assumption))))⟩ | exact ⟨va.heap.size, vb.heap.size, vc.heap.size, _, _, _, _, rfl, rfl, two_setC qb, ((oc.wide (B' := vb.heap.size) (by first | exact Nat.le_refl _ | (simp; done)) (Nat.le_refl _)).far (.inl (by first | omega | (simp; done) | (simp; omega))) _).far (.inl (by first | omega | (simp; done) | (simp; omega))) _, ((pc.wide (B' := vb.heap.size) (by first | exact Nat.le_refl _ | (simp; done)) (Nat.le_refl _)).far (.inl (by first | omega | (simp; done) | (simp; omega))) _).far (.inl (by first | omega | (simp; done) | (simp; omega))) _, apc, .inl (by first | omega | (simp; done) | (simp; omega)), (by first | omega | (simp; done) | (simp; omega)), (by first | omega | (simp; done) | (simp; omega)), (by simp), (by repeat (first | exact Below.refl _ _ | assumption | apply bl_alloc | apply bl_drewN | apply Below.drew | (refine bl_set ?_ (by first | exact Nat.le_refl _ | (simp; done) | (simp; omega)) _) | (refine bl_trans ?_ (by assumption))))⟩ | exact ⟨vb.heap.size, vb.heap.size + 1, vc.heap.size, _, _, _, _, rfl, rfl, two_setC qc, ((oc.wide (B' := vb.heap.size + 1) (by first | exact Nat.le_refl _ | (simp; done)) (Nat.le_refl _)).far (.inl (by first | omega | (simp; done) | (simp; omega))) _).far (.inl (by first | omega | (simp; done) | (simp; omega))) _, ((pc.wide (B' := vb.heap.size + 1) (by first | exact Nat.le_refl _ | (simp; done)) (Nat.le_refl _)).far (.inl (by first | omega | (simp; done) | (simp; omega))) _).far (.inl (by first | omega | (simp; done) | (simp; omega))) _, apc, .inl (by first | omega | (simp; done) | (simp; omega)), (by first | omega | (simp; done) | (simp; omega)), (by first | omega | (simp; done) | (simp; omega)), (by simp), (by repeat (first | exact Below.refl _ _ | assumption | apply bl_alloc | apply bl_drewN | apply Below.drew | (refine bl_set ?_ (by first | exact Nat.le_refl _ | (simp; done) | (simp; omega)) _) | (refine bl_trans ?_ (by assumption))))⟩))
    case rest =>
      obtain ⟨g17, L17, H17, X17, Y17, c17, y17, rfl, rfl, kh, o17, p17, ap17, d17, e17, f17, h17, b17⟩ := hcut
      obtain ⟨w17, rfl⟩ : ∃ x : World, x = wc := ⟨_, rfl⟩
      have s17 : Below w16.heap.size w16 w17 := (by repeat (first | exact Below.refl _ _ | assumption | apply bl_alloc | apply bl_drewN | apply Below.drew | (refine bl_set ?_ (by first | exact Nat.le_refl _ | (simp; done) | (simp; omega)) _) | (refine bl_trans ?_ (by assumption))))
      have z17 := s17.size
      have t17 : Below w.heap.size w w17 := t16.trans (s17.mono (by omega))
      replace o3 := o3.below (s17.mono (by omega))
      replace p3 := p3.below (s17.mono (by omega))
      replace m15 := m15.below (s17.mono (by omega))
      replace n15 := n15.below (s17.mono (by omega))
      replace kp : w17.heap[w.heap.size]? = some (.cells #[.slice Als (List.length ls) cls, .slice Avs (List.length vs) cvs] 42 (0, 0)) := keep_blk (hb := s17) (h := kp)
      clear kp0 kp1 kpl
      obtain ⟨kp0, kp1, kpl⟩ := row_two kp
      replace kqp : w17.heap[w.heap.size + 1]? = some (.cells #[.slice Ams (List.length ms) cms, .slice Aus (List.length us) cus] 42 (0, 0)) := keep_blk (hb := s17) (h := kqp)
      clear kqp0 kqp1 kqpl
      obtain ⟨kqp0, kqp1, kqpl⟩ := row_two kqp
      replace kw : w17.heap[g3]? = some (.cells #[.slice X3 (joL ls vs ms us).length c3, .slice Y3 (joV ls vs ms us).length y3] 32 (0, 0)) := keep_blk (hb := s17) (h := kw)
      clear kw0 kw1 kwl
      obtain ⟨kw0, kw1, kwl⟩ := row_two kw
      replace kg : w17.heap[w6.heap.size]? = some (.cells #[.slice X6 (joL ls vs ms us).length c6, .slice Y6 (joV ls vs ms us).length d6] 32 (0, 0)) := keep_blk (hb := s17) (h := kg)
      clear kg0 kg1 kgl
      obtain ⟨kg0, kg1, kgl⟩ := row_two kg
      have vkh := blk_lt kh
      obtain ⟨kh0, kh1, khl⟩ := row_two kh
      go_wp2_with fail
      refine (eqCurve_any _ _ _ _ _ _ _ _ _ _ _ ((o17.below (Below.mono (B := w17.heap.size) (by repeat (first | exact Below.refl _ _ | assumption | apply bl_alloc | apply bl_drewN | apply Below.drew | (refine bl_set ?_ (by first | exact Nat.le_refl _ | (simp; done) | (simp; omega)) _) | (refine bl_trans ?_ (by assumption)))) (by omega))).rc) ((p17.below (Below.mono (B := w17.heap.size) (by repeat (first | exact Below.refl _ _ | assumption | apply bl_alloc | apply bl_drewN | apply Below.drew | (refine bl_set ?_ (by first | exact Nat.le_refl _ | (simp; done) | (simp; omega)) _) | (refine bl_trans ?_ (by assumption)))) (by omega))).rc) ((o3.below (Below.mono (B := w17.heap.size) (by repeat (first | exact Below.refl _ _ | assumption | apply bl_alloc | apply bl_drewN | apply Below.drew | (refine bl_set ?_ (by first | exact Nat.le_refl _ | (simp; done) | (simp; omega)) _) | (refine bl_trans ?_ (by assumption)))) (by omega))).rc) ((p3.below (Below.mono (B := w17.heap.size) (by repeat (first | exact Below.refl _ _ | assumption | apply bl_alloc | apply bl_drewN | apply Below.drew | (refine bl_set ?_ (by first | exact Nat.le_refl _ | (simp; done) | (simp; omega)) _) | (refine bl_trans ?_ (by assumption)))) (by omega))).rc) (Nat.le_trans (joL_len ls vs ms us) (by decide)) (Nat.le_trans (Nat.le_trans (Nat.le_of_eq (joV_len ls vs ms us)) (joL_len ls vs ms us)) (by decide))).mono ?_
      rintro e w18 ⟨rfl, b18⟩
      have s18 : Below w17.heap.size w17 w18 := (by repeat (first | exact Below.refl _ _ | assumption | apply bl_alloc | apply bl_drewN | apply Below.drew | (refine bl_set ?_ (by first | exact Nat.le_refl _ | (simp; done) | (simp; omega)) _) | (refine bl_trans ?_ (by assumption))))
      have z18 := s18.size
      have t18 : Below w.heap.size w w18 := t17.trans (s18.mono (by omega))
      replace o3 := o3.below (s18.mono (by omega))
      replace p3 := p3.below (s18.mono (by omega))
      replace m15 := m15.below (s18.mono (by omega))
      replace n15 := n15.below (s18.mono (by omega))
      replace o17 := o17.below (s18.mono (by omega))
      replace p17 := p17.below (s18.mono (by omega))
      replace kp : w18.heap[w.heap.size]? = some (.cells #[.slice Als (List.length ls) cls, .slice Avs (List.length vs) cvs] 42 (0, 0)) := keep_blk (hb := s18) (h := kp)
      clear kp0 kp1 kpl
      obtain ⟨kp0, kp1, kpl⟩ := row_two kp
      replace kqp : w18.heap[w.heap.size + 1]? = some (.cells #[.slice Ams (List.length ms) cms, .slice Aus (List.length us) cus] 42 (0, 0)) := keep_blk (hb := s18) (h := kqp)
      clear kqp0 kqp1 kqpl
      obtain ⟨kqp0, kqp1, kqpl⟩ := row_two kqp
      replace kw : w18.heap[g3]? = some (.cells #[.slice X3 (joL ls vs ms us).length c3, .slice Y3 (joV ls vs ms us).length y3] 32 (0, 0)) := keep_blk (hb := s18) (h := kw)
      clear kw0 kw1 kwl
      obtain ⟨kw0, kw1, kwl⟩ := row_two kw
      replace kg : w18.heap[w6.heap.size]? = some (.cells #[.slice X6 (joL ls vs ms us).length c6, .slice Y6 (joV ls vs ms us).length d6] 32 (0, 0)) := keep_blk (hb := s18) (h := kg)
      clear kg0 kg1 kgl
      obtain ⟨kg0, kg1, kgl⟩ := row_two kg
      replace kh : w18.heap[g17]? = some (.cells #[.slice X17 (joL ls vs ms us).length c17, .slice Y17 (joV ls vs ms us).length y17] 32 (0, 0)) := keep_blk (hb := s18) (h := kh)
      clear kh0 kh1 khl
      obtain ⟨kh0, kh1, khl⟩ := row_two kh
      go_wp2_with fail
      refine (heldCurve_any _ _ _ _ _ _ _ _ ((m15.below (Below.mono (B := w18.heap.size) (by repeat (first | exact Below.refl _ _ | assumption | apply bl_alloc | apply bl_drewN | apply Below.drew | (refine bl_set ?_ (by first | exact Nat.le_refl _ | (simp; done) | (simp; omega)) _) | (refine bl_trans ?_ (by assumption)))) (by omega))).rc) ((n15.below (Below.mono (B := w18.heap.size) (by repeat (first | exact Below.refl _ _ | assumption | apply bl_alloc | apply bl_drewN | apply Below.drew | (refine bl_set ?_ (by first | exact Nat.le_refl _ | (simp; done) | (simp; omega)) _) | (refine bl_trans ?_ (by assumption)))) (by omega))).rc) (Nat.le_trans (joL_len ls vs ms us) (by decide)) (Nat.le_trans (Nat.le_trans (Nat.le_of_eq (joV_len ls vs ms us)) (joL_len ls vs ms us)) (by decide)) (by omega) (by omega)).mono ?_
      rintro e w19 ⟨rfl, b19⟩
      have s19 : Below w18.heap.size w18 w19 := (by repeat (first | exact Below.refl _ _ | assumption | apply bl_alloc | apply bl_drewN | apply Below.drew | (refine bl_set ?_ (by first | exact Nat.le_refl _ | (simp; done) | (simp; omega)) _) | (refine bl_trans ?_ (by assumption))))
      have z19 := s19.size
      have t19 : Below w.heap.size w w19 := t18.trans (s19.mono (by omega))
      replace o3 := o3.below (s19.mono (by omega))
      replace p3 := p3.below (s19.mono (by omega))
      replace m15 := m15.below (s19.mono (by omega))
      replace n15 := n15.below (s19.mono (by omega))
      replace o17 := o17.below (s19.mono (by omega))
      replace p17 := p17.below (s19.mono (by omega))
      replace kp : w19.heap[w.heap.size]? = some (.cells #[.slice Als (List.length ls) cls, .slice Avs (List.length vs) cvs] 42 (0, 0)) := keep_blk (hb := s19) (h := kp)
      clear kp0 kp1 kpl
      obtain ⟨kp0, kp1, kpl⟩ := row_two kp
      replace kqp : w19.heap[w.heap.size + 1]? = some (.cells #[.slice Ams (List.length ms) cms, .slice Aus (List.length us) cus] 42 (0, 0)) := keep_blk (hb := s19) (h := kqp)
      clear kqp0 kqp1 kqpl
      obtain ⟨kqp0, kqp1, kqpl⟩ := row_two kqp
      replace kw : w19.heap[g3]? = some (.cells #[.slice X3 (joL ls vs ms us).length c3, .slice Y3 (joV ls vs ms us).length y3] 32 (0, 0)) := keep_blk (hb := s19) (h := kw)
      clear kw0 kw1 kwl
      obtain ⟨kw0, kw1, kwl⟩ := row_two kw
      replace kg : w19.heap[w6.heap.size]? = some (.cells #[.slice X6 (joL ls vs ms us).length c6, .slice Y6 (joV ls vs ms us).length d6] 32 (0, 0)) := keep_blk (hb := s19) (h := kg)
      clear kg0 kg1 kgl
      obtain ⟨kg0, kg1, kgl⟩ := row_two kg
      replace kh : w19.heap[g17]? = some (.cells #[.slice X17 (joL ls vs ms us).length c17, .slice Y17 (joV ls vs ms us).length y17] 32 (0, 0)) := keep_blk (hb := s19) (h := kh)
      clear kh0 kh1 khl
      obtain ⟨kh0, kh1, khl⟩ := row_two kh
      go_wp2
      go_ret
      exact ⟨rfl, by repeat (first | exact Below.refl _ _ | assumption | apply bl_alloc | apply bl_drewN | apply Below.drew | (refine bl_set ?_ (by first | exact Nat.le_refl _ | (simp; done) | (simp; omega)) _) | (refine bl_trans ?_ (by assumption)))⟩

theorem own : ownKnob Try.prog.godebug = none := by kernel_rfl
theorem laidOut : laidOutB Try.prog = true := by kernel_rfl
set_option maxRecDepth 100000 in
theorem lifted (os : Os) (started : os.Started) (H : Type) (enc : TypeId × Value → H) :
    ReturnsInHanded {} Try.checked os 5 .any (Rows.fnExactJoinCurvesSpec.pre6 enc Try.prog Try.f5 Rows.fnExactJoinCurvesRow.domain false) (Rows.fnExactJoinCurvesSpec.post enc Try.prog Try.f5 false true false false) := by
  refine returnsInHanded_of_change (C := Try.checked) own started (by kernel_rfl) Try.func5
    (ChangeSpec.witness6 (enc := enc) (C := Try.checked) false ⟨#[], #[.agg #[.slice none 0 0, .slice none 0 0], .agg #[.slice none 0 0, .slice none 0 0]], []⟩ 8 (by kernel_rfl) (by kernel_rfl) (by kernel_rfl) (by kernel_rfl)) ?_
  intro W base args ds gs before hval0 hW hcnd _
  have hval : ∀ (j : Nat) t v, Try.f5.params[j]? = some t → args[j]? = some v → Value.okWide Try.prog W .any base t v := hval0
  have hW' := hW
  obtain ⟨p, q, hA0, hV, rfl, hfz, hnd⟩ := hW
  have hA : DataW.TrodAll enc Try.prog W 0 (fun _ => true) true Try.f5.params.toList args.toList ds p := hA0
  rw [Try.params5] at hA hval
  obtain ⟨v0, vs0, d0, ds0, p0, q0, hargs, rfl, rfl, h0, r0⟩ := trodAll_cons hA
  obtain ⟨v1, vs1, d1, ds1, p1, q1, rfl, rfl, rfl, h1, r1⟩ := trodAll_cons r0
  obtain ⟨rfl, rfl, rfl⟩ := trodAll_nil r1
  obtain rfl : args = #[v0, v1] := by cases args; simp_all
  obtain ⟨rfl, rfl⟩ := trodVars_none hV
  have k0 := h0
  have lt0 : ∀ x ∈ p0, x.block < W.heap.size := by obtain ⟨m, hm⟩ := k0; exact DataW.trod_lt m _ _ _ hm
  obtain ⟨e0_0, e0_1, y0_0, y0_1, fu0, rfl, _, _, hy0_0, hy0_1⟩ := open_agg2 Try.underlying42 (by kernel_rfl) (by kernel_rfl) (hval 0 42 v0 rfl rfl) h0
  obtain ⟨Als, ls, cls, hc0_0, rls, mls⟩ := open_list Try.underlying22 Try.underlying2 (by kernel_rfl) hy0_0
  simp only [List.cons.injEq, and_true] at hc0_0
  subst hc0_0
  obtain ⟨Avs, vs, cvs, hc0_1, rvs, mvs⟩ := open_list Try.underlying22 Try.underlying2 (by kernel_rfl) hy0_1
  simp only [List.cons.injEq, and_true] at hc0_1
  subst hc0_1
  have k1 := h1
  have lt1 : ∀ x ∈ p1, x.block < W.heap.size := by obtain ⟨m, hm⟩ := k1; exact DataW.trod_lt m _ _ _ hm
  obtain ⟨e1_0, e1_1, y1_0, y1_1, fu1, rfl, _, _, hy1_0, hy1_1⟩ := open_agg2 Try.underlying42 (by kernel_rfl) (by kernel_rfl) (hval 1 42 v1 rfl rfl) h1
  obtain ⟨Ams, ms, cms, hc1_0, rms, mms⟩ := open_list Try.underlying22 Try.underlying2 (by kernel_rfl) hy1_0
  simp only [List.cons.injEq, and_true] at hc1_0
  subst hc1_0
  obtain ⟨Aus, us, cus, hc1_1, rus, mus⟩ := open_list Try.underlying22 Try.underlying2 (by kernel_rfl) hy1_1
  simp only [List.cons.injEq, and_true] at hc1_1
  subst hc1_1
  refine (walk Als ls cls Avs vs cvs Ams ms cms Aus us cus W rls mls rvs mvs rms mms rus mus).mono fun e W' ⟨he, bel⟩ => ?_
  subst he
  exact ⟨_, rfl, _, _, _, [], _, [], hW', trodAll_mk1 (shut_bool Try.underlying4 _), (trodAll_cons_mk (Below.trod laidOut (by kernel_rfl) (of_decide_eq_true (by kernel_rfl)) k0 bel lt0) (trodAll_cons_mk (Below.trod laidOut (by kernel_rfl) (of_decide_eq_true (by kernel_rfl)) k1 bel lt1) trodAll_mk0)), rfl, bel.frame _, fun h => by cases h⟩
theorem over : Rows.fnExactJoinCurvesRow.holds Try.pinned (OpenSpec.ofChange Rows.fnExactJoinCurvesSpec) :=
  OpenClaim.holds_of_wide 5 Try.f5 rfl rfl rfl rfl rfl rfl rfl ⟨rfl, rfl, rfl, rfl, rfl⟩ rfl rfl rfl rfl rfl (by kernel_rfl) Try.func5 (by kernel_rfl)
    (of_decide_eq_true (by kernel_rfl)) (by unfold Func.isWrapper; first | (rw [if_pos (by decide +kernel)]; kernel_rfl) | (rw [if_neg (by decide +kernel)]; exact ⟨rfl, rfl⟩))
    (fun os started H enc _ => lifted os started H enc)
/-- the statement -/
theorem proved : Rows.FnExactJoinCurvesSaid := over
#print axioms proved
end Go.Proofs.Ytcgnnlgakfndaaa.fnExactJoinCurves
