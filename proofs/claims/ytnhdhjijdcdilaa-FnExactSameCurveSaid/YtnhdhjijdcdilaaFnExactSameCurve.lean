/-
  The law 'FnExactSameCurve' holds for every input: whether two curves are the same is told as the reference tells it. No condition.
  The frame follows the kit's template for such a statement; the walk is ours.
-/
import Derived.Test.YtnhdhjijdcdilaaRows
import Derived.Test.YtnhdhjijdcdilaaOnly
import Derived.Test.YtnhdhjijdcdilaaCurve2
import Derived.Test.YtnhdhjijdcdilaaSame
import Derived.Test.YtnhdhjijdcdilaaOpen
import Derived.Lib.SmallJoins
import Derived.Deep.RegionHeld3
namespace Go.Proofs.Ytnhdhjijdcdilaa.fnExactSameCurve
open Go.ChangeShapes Go.WideShapes Go.ChangeAt Go.RowKit Go.Joins
open Go.ChangeMaps (open_string shut_string)
set_option linter.unusedVariables false
set_option maxHeartbeats 4000000 in
theorem walk (Als : Option Addr) (ls : List Int) (cls : Nat) (Avs : Option Addr) (vs : List Int) (cvs : Nat) (Ams : Option Addr) (ms : List Int) (cms : Nat) (Aus : Option Addr) (us : List Int) (cus : Nat) (w : World) (rls : RC w Als (ints ls)) (mls : ls.length ≤ 9223372036854775807) (rvs : RC w Avs (ints vs)) (mvs : vs.length ≤ 9223372036854775807) (rms : RC w Ams (ints ms)) (mms : ms.length ≤ 9223372036854775807) (rus : RC w Aus (ints us)) (mus : us.length ≤ 9223372036854775807) :
    Calls Try.prog 5 #[.agg #[.slice Als (List.length ls) cls, .slice Avs (List.length vs) cvs], .agg #[.slice Ams (List.length ms) cms, .slice Aus (List.length us) cus]] w fun e w' => e = .returned (.bool true) ∧ Below w.heap.size w w' := by
  skip
  by_cases hz0 : ls.length + vs.length ≤ 1048576
  rotate_left
  · go_enter Try.func5, Try.ntmps5
    go_wp2_with fail
    refine (szCurve_no _ _ _ _ _ _ _ _ (by omega) (by omega) (by omega) mls mvs).mono ?_
    rintro e w1 ⟨rfl, b1⟩
    go_wp2
    go_ret
    exact ⟨rfl, by repeat (first | exact Below.refl _ _ | assumption | apply bl_alloc | apply bl_drewN | apply Below.drew | (refine bl_set ?_ (by first | exact Nat.le_refl _ | (simp; done) | (simp; omega)) _) | (refine bl_trans ?_ (by assumption)))⟩
  by_cases hz1 : ls.length + vs.length + ms.length + us.length ≤ 1048576
  rotate_left
  · go_enter Try.func5, Try.ntmps5
    go_wp2_with fail
    refine (szCurve_yes _ _ _ _ _ _ _ _ (by omega) (by omega)).mono ?_
    rintro e w1 ⟨rfl, b1⟩
    have kq : w1.heap[w.heap.size + 1]? = some (.cells #[.slice Ams (List.length ms) cms, .slice Aus (List.length us) cus] 30 (0, 0)) := keep_blk (hb := b1) (h := by repeat (first | (refine blk_new ?_; (first | rfl | (simp; done) | (simp; omega))) | refine blk_drewN ?_ | refine blk_old ?_))
    obtain ⟨kq0, kq1, kql⟩ := row_two kq
    go_wp2_with fail
    refine (szCurve_no _ _ _ _ _ _ _ _ (by omega) (by omega) (by omega) mms mus).mono ?_
    rintro e w2 ⟨rfl, b2⟩
    go_wp2
    go_ret
    exact ⟨rfl, by repeat (first | exact Below.refl _ _ | assumption | apply bl_alloc | apply bl_drewN | apply Below.drew | (refine bl_set ?_ (by first | exact Nat.le_refl _ | (simp; done) | (simp; omega)) _) | (refine bl_trans ?_ (by assumption)))⟩
  have hmls : ls.length ≤ 1048576 := by omega
  have hmvs : vs.length ≤ 1048576 := by omega
  have hmms : ms.length ≤ 1048576 := by omega
  have hmus : us.length ≤ 1048576 := by omega
  go_enter Try.func5, Try.ntmps5
  go_wp2_with fail
  refine (szCurve_yes _ _ _ _ _ _ _ _ (by omega) (by omega)).mono ?_
  rintro e w1 ⟨rfl, b1⟩
  have s1 : Below w.heap.size w w1 := (by repeat (first | exact Below.refl _ _ | assumption | apply bl_alloc | apply bl_drewN | apply Below.drew | (refine bl_set ?_ (by first | exact Nat.le_refl _ | (simp; done) | (simp; omega)) _) | (refine bl_trans ?_ (by assumption))))
  have z1 := s1.size
  have t1 : Below w.heap.size w w1 := s1
  have kp : w1.heap[w.heap.size]? = some (.cells #[.slice Als (List.length ls) cls, .slice Avs (List.length vs) cvs] 30 (0, 0)) := keep_blk (hb := b1) (h := by repeat (first | (refine blk_new ?_; (first | rfl | (simp; done) | (simp; omega))) | refine blk_drewN ?_ | refine blk_old ?_))
  obtain ⟨kp0, kp1, kpl⟩ := row_two kp
  have kqp : w1.heap[w.heap.size + 1]? = some (.cells #[.slice Ams (List.length ms) cms, .slice Aus (List.length us) cus] 30 (0, 0)) := keep_blk (hb := b1) (h := by repeat (first | (refine blk_new ?_; (first | rfl | (simp; done) | (simp; omega))) | refine blk_drewN ?_ | refine blk_old ?_))
  obtain ⟨kqp0, kqp1, kqpl⟩ := row_two kqp
  go_wp2_with fail
  refine (szCurve_yes _ _ _ _ _ _ _ _ (by omega) (by omega)).mono ?_
  rintro e w2 ⟨rfl, b2⟩
  have s2 : Below w1.heap.size w1 w2 := (by repeat (first | exact Below.refl _ _ | assumption | apply bl_alloc | apply bl_drewN | apply Below.drew | (refine bl_set ?_ (by first | exact Nat.le_refl _ | (simp; done) | (simp; omega)) _) | (refine bl_trans ?_ (by assumption))))
  have z2 := s2.size
  have t2 : Below w.heap.size w w2 := t1.trans (s2.mono (by omega))
  replace kp : w2.heap[w.heap.size]? = some (.cells #[.slice Als (List.length ls) cls, .slice Avs (List.length vs) cvs] 30 (0, 0)) := keep_blk (hb := s2) (h := kp)
  clear kp0 kp1 kpl
  obtain ⟨kp0, kp1, kpl⟩ := row_two kp
  replace kqp : w2.heap[w.heap.size + 1]? = some (.cells #[.slice Ams (List.length ms) cms, .slice Aus (List.length us) cus] 30 (0, 0)) := keep_blk (hb := s2) (h := kqp)
  clear kqp0 kqp1 kqpl
  obtain ⟨kqp0, kqp1, kqpl⟩ := row_two kqp
  go_wp2_with fail
  go_region_held3 (fun w' => w'.cell? ⟨w.heap.size, 0, none⟩ = some (.slice Als (List.length ls) cls) ∧ w'.cell? ⟨w.heap.size, 1, none⟩ = some (.slice Avs (List.length vs) cvs) ∧ w'.cell? ⟨w.heap.size + 1, 0, none⟩ = some (.slice Ams (List.length ms) cms) ∧ w'.cell? ⟨w.heap.size + 1, 1, none⟩ = some (.slice Aus (List.length us) cus)) (first | go_keep | (refine ⟨?_, ?_, ?_, ?_⟩ <;> assumption)) (first | (go_at_call_of 22 Als; refine (toCurve_any _ _ _ _ _ _ _ (rls.below (by repeat (first | exact Below.refl _ _ | assumption | apply bl_alloc | apply bl_drewN | apply Below.drew | (refine bl_set ?_ (by first | exact Nat.le_refl _ | (simp; done) | (simp; omega)) _) | (refine bl_trans ?_ (by assumption))))) (rvs.below (by repeat (first | exact Below.refl _ _ | assumption | apply bl_alloc | apply bl_drewN | apply Below.drew | (refine bl_set ?_ (by first | exact Nat.le_refl _ | (simp; done) | (simp; omega)) _) | (refine bl_trans ?_ (by assumption))))) hmls hmvs).mono ?_; rintro e w3 ⟨X3, c3, Y3, d3, M3, rfl, g3, h3, o3, p3, b3⟩; have s3 : Below w2.heap.size w2 w3 := (by repeat (first | exact Below.refl _ _ | assumption | apply bl_alloc | apply bl_drewN | apply Below.drew | (refine bl_set ?_ (by first | exact Nat.le_refl _ | (simp; done) | (simp; omega)) _) | (refine bl_trans ?_ (by assumption)))); have z3 := s3.size; have t3 : Below w.heap.size w w3 := t2.trans (s3.mono (by omega)); replace kp : w3.heap[w.heap.size]? = some (.cells #[.slice Als (List.length ls) cls, .slice Avs (List.length vs) cvs] 30 (0, 0)) := keep_blk (hb := s3) (h := kp); clear kp0 kp1 kpl; obtain ⟨kp0, kp1, kpl⟩ := row_two kp; replace kqp : w3.heap[w.heap.size + 1]? = some (.cells #[.slice Ams (List.length ms) cms, .slice Aus (List.length us) cus] 30 (0, 0)) := keep_blk (hb := s3) (h := kqp); clear kqp0 kqp1 kqpl; obtain ⟨kqp0, kqp1, kqpl⟩ := row_two kqp; replace g3 : w2.heap.size ≤ M3 := Nat.le_trans (Below.size (B := w2.heap.size) (by repeat (first | exact Below.refl _ _ | assumption | apply bl_alloc | apply bl_drewN | apply Below.drew | (refine bl_set ?_ (by first | exact Nat.le_refl _ | (simp; done) | (simp; omega)) _) | (refine bl_trans ?_ (by assumption))))) g3; replace o3 := o3.wide (B' := w2.heap.size) (E' := M3) (Below.size (B := w2.heap.size) (by repeat (first | exact Below.refl _ _ | assumption | apply bl_alloc | apply bl_drewN | apply Below.drew | (refine bl_set ?_ (by first | exact Nat.le_refl _ | (simp; done) | (simp; omega)) _) | (refine bl_trans ?_ (by assumption))))) (Nat.le_refl _)) | (go_at_call_of 22 Ams; refine (toCurve_any _ _ _ _ _ _ _ (rms.below (by repeat (first | exact Below.refl _ _ | assumption | apply bl_alloc | apply bl_drewN | apply Below.drew | (refine bl_set ?_ (by first | exact Nat.le_refl _ | (simp; done) | (simp; omega)) _) | (refine bl_trans ?_ (by assumption))))) (rus.below (by repeat (first | exact Below.refl _ _ | assumption | apply bl_alloc | apply bl_drewN | apply Below.drew | (refine bl_set ?_ (by first | exact Nat.le_refl _ | (simp; done) | (simp; omega)) _) | (refine bl_trans ?_ (by assumption))))) hmms hmus).mono ?_; rintro e w4 ⟨X4, c4, Y4, d4, M4, rfl, g4, h4, o4, p4, b4⟩; have s4 : Below w3.heap.size w3 w4 := (by repeat (first | exact Below.refl _ _ | assumption | apply bl_alloc | apply bl_drewN | apply Below.drew | (refine bl_set ?_ (by first | exact Nat.le_refl _ | (simp; done) | (simp; omega)) _) | (refine bl_trans ?_ (by assumption)))); have z4 := s4.size; have t4 : Below w.heap.size w w4 := t3.trans (s4.mono (by omega)); replace o3 := o3.below (s4.mono (by omega)); replace p3 := p3.below (s4.mono (by omega)); replace kp : w4.heap[w.heap.size]? = some (.cells #[.slice Als (List.length ls) cls, .slice Avs (List.length vs) cvs] 30 (0, 0)) := keep_blk (hb := s4) (h := kp); clear kp0 kp1 kpl; obtain ⟨kp0, kp1, kpl⟩ := row_two kp; replace kqp : w4.heap[w.heap.size + 1]? = some (.cells #[.slice Ams (List.length ms) cms, .slice Aus (List.length us) cus] 30 (0, 0)) := keep_blk (hb := s4) (h := kqp); clear kqp0 kqp1 kqpl; obtain ⟨kqp0, kqp1, kqpl⟩ := row_two kqp; replace g4 : w3.heap.size ≤ M4 := Nat.le_trans (Below.size (B := w3.heap.size) (by repeat (first | exact Below.refl _ _ | assumption | apply bl_alloc | apply bl_drewN | apply Below.drew | (refine bl_set ?_ (by first | exact Nat.le_refl _ | (simp; done) | (simp; omega)) _) | (refine bl_trans ?_ (by assumption))))) g4; replace o4 := o4.wide (B' := w3.heap.size) (E' := M4) (Below.size (B := w3.heap.size) (by repeat (first | exact Below.refl _ _ | assumption | apply bl_alloc | apply bl_drewN | apply Below.drew | (refine bl_set ?_ (by first | exact Nat.le_refl _ | (simp; done) | (simp; omega)) _) | (refine bl_trans ?_ (by assumption))))) (Nat.le_refl _)) | (go_at_call 21; refine (specSameCurve _ _ _ _ _ _ _ _ _ ls vs ms us ((o3.below (Below.mono (B := w4.heap.size) (by repeat (first | exact Below.refl _ _ | assumption | apply bl_alloc | apply bl_drewN | apply Below.drew | (refine bl_set ?_ (by first | exact Nat.le_refl _ | (simp; done) | (simp; omega)) _) | (refine bl_trans ?_ (by assumption)))) (by omega))).rc) ((p3.below (Below.mono (B := w4.heap.size) (by repeat (first | exact Below.refl _ _ | assumption | apply bl_alloc | apply bl_drewN | apply Below.drew | (refine bl_set ?_ (by first | exact Nat.le_refl _ | (simp; done) | (simp; omega)) _) | (refine bl_trans ?_ (by assumption)))) (by omega))).rc) ((o4.below (Below.mono (B := w4.heap.size) (by repeat (first | exact Below.refl _ _ | assumption | apply bl_alloc | apply bl_drewN | apply Below.drew | (refine bl_set ?_ (by first | exact Nat.le_refl _ | (simp; done) | (simp; omega)) _) | (refine bl_trans ?_ (by assumption)))) (by omega))).rc) ((p4.below (Below.mono (B := w4.heap.size) (by repeat (first | exact Below.refl _ _ | assumption | apply bl_alloc | apply bl_drewN | apply Below.drew | (refine bl_set ?_ (by first | exact Nat.le_refl _ | (simp; done) | (simp; omega)) _) | (refine bl_trans ?_ (by assumption)))) (by omega))).rc) hmls hmvs hmms hmus).mono ?_; rintro e w5 ⟨rfl, b5⟩; have s5 : Below w4.heap.size w4 w5 := (by repeat (first | exact Below.refl _ _ | assumption | apply bl_alloc | apply bl_drewN | apply Below.drew | (refine bl_set ?_ (by first | exact Nat.le_refl _ | (simp; done) | (simp; omega)) _) | (refine bl_trans ?_ (by assumption)))); have z5 := s5.size; have t5 : Below w.heap.size w w5 := t4.trans (s5.mono (by omega)); replace o3 := o3.below (s5.mono (by omega)); replace p3 := p3.below (s5.mono (by omega)); replace o4 := o4.below (s5.mono (by omega)); replace p4 := p4.below (s5.mono (by omega)); replace kp : w5.heap[w.heap.size]? = some (.cells #[.slice Als (List.length ls) cls, .slice Avs (List.length vs) cvs] 30 (0, 0)) := keep_blk (hb := s5) (h := kp); clear kp0 kp1 kpl; obtain ⟨kp0, kp1, kpl⟩ := row_two kp; replace kqp : w5.heap[w.heap.size + 1]? = some (.cells #[.slice Ams (List.length ms) cms, .slice Aus (List.length us) cus] 30 (0, 0)) := keep_blk (hb := s5) (h := kqp); clear kqp0 kqp1 kqpl; obtain ⟨kqp0, kqp1, kqpl⟩ := row_two kqp))
  clear o3 p3 o4 p4
  go_wp2_with fail
  refine (toCurve_any _ _ _ _ _ _ _ (rls.below (by repeat (first | exact Below.refl _ _ | assumption | apply bl_alloc | apply bl_drewN | apply Below.drew | (refine bl_set ?_ (by first | exact Nat.le_refl _ | (simp; done) | (simp; omega)) _) | (refine bl_trans ?_ (by assumption))))) (rvs.below (by repeat (first | exact Below.refl _ _ | assumption | apply bl_alloc | apply bl_drewN | apply Below.drew | (refine bl_set ?_ (by first | exact Nat.le_refl _ | (simp; done) | (simp; omega)) _) | (refine bl_trans ?_ (by assumption))))) hmls hmvs).mono ?_
  rintro e w6 ⟨X6, c6, Y6, d6, M6, rfl, g6, h6, o6, p6, b6⟩
  have s6 : Below w5.heap.size w5 w6 := (by repeat (first | exact Below.refl _ _ | assumption | apply bl_alloc | apply bl_drewN | apply Below.drew | (refine bl_set ?_ (by first | exact Nat.le_refl _ | (simp; done) | (simp; omega)) _) | (refine bl_trans ?_ (by assumption))))
  have z6 := s6.size
  have t6 : Below w.heap.size w w6 := t5.trans (s6.mono (by omega))
  replace kp : w6.heap[w.heap.size]? = some (.cells #[.slice Als (List.length ls) cls, .slice Avs (List.length vs) cvs] 30 (0, 0)) := keep_blk (hb := s6) (h := kp)
  clear kp0 kp1 kpl
  obtain ⟨kp0, kp1, kpl⟩ := row_two kp
  replace kqp : w6.heap[w.heap.size + 1]? = some (.cells #[.slice Ams (List.length ms) cms, .slice Aus (List.length us) cus] 30 (0, 0)) := keep_blk (hb := s6) (h := kqp)
  clear kqp0 kqp1 kqpl
  obtain ⟨kqp0, kqp1, kqpl⟩ := row_two kqp
  replace g6 : w5.heap.size ≤ M6 := Nat.le_trans (Below.size (B := w5.heap.size) (by repeat (first | exact Below.refl _ _ | assumption | apply bl_alloc | apply bl_drewN | apply Below.drew | (refine bl_set ?_ (by first | exact Nat.le_refl _ | (simp; done) | (simp; omega)) _) | (refine bl_trans ?_ (by assumption))))) g6
  replace o6 := o6.wide (B' := w5.heap.size) (E' := M6) (Below.size (B := w5.heap.size) (by repeat (first | exact Below.refl _ _ | assumption | apply bl_alloc | apply bl_drewN | apply Below.drew | (refine bl_set ?_ (by first | exact Nat.le_refl _ | (simp; done) | (simp; omega)) _) | (refine bl_trans ?_ (by assumption))))) (Nat.le_refl _)
  go_wp2_with fail
  refine (toCurve_any _ _ _ _ _ _ _ (rms.below (by repeat (first | exact Below.refl _ _ | assumption | apply bl_alloc | apply bl_drewN | apply Below.drew | (refine bl_set ?_ (by first | exact Nat.le_refl _ | (simp; done) | (simp; omega)) _) | (refine bl_trans ?_ (by assumption))))) (rus.below (by repeat (first | exact Below.refl _ _ | assumption | apply bl_alloc | apply bl_drewN | apply Below.drew | (refine bl_set ?_ (by first | exact Nat.le_refl _ | (simp; done) | (simp; omega)) _) | (refine bl_trans ?_ (by assumption))))) hmms hmus).mono ?_
  rintro e w7 ⟨X7, c7, Y7, d7, M7, rfl, g7, h7, o7, p7, b7⟩
  have s7 : Below w6.heap.size w6 w7 := (by repeat (first | exact Below.refl _ _ | assumption | apply bl_alloc | apply bl_drewN | apply Below.drew | (refine bl_set ?_ (by first | exact Nat.le_refl _ | (simp; done) | (simp; omega)) _) | (refine bl_trans ?_ (by assumption))))
  have z7 := s7.size
  have t7 : Below w.heap.size w w7 := t6.trans (s7.mono (by omega))
  replace o6 := o6.below (s7.mono (by omega))
  replace p6 := p6.below (s7.mono (by omega))
  replace kp : w7.heap[w.heap.size]? = some (.cells #[.slice Als (List.length ls) cls, .slice Avs (List.length vs) cvs] 30 (0, 0)) := keep_blk (hb := s7) (h := kp)
  clear kp0 kp1 kpl
  obtain ⟨kp0, kp1, kpl⟩ := row_two kp
  replace kqp : w7.heap[w.heap.size + 1]? = some (.cells #[.slice Ams (List.length ms) cms, .slice Aus (List.length us) cus] 30 (0, 0)) := keep_blk (hb := s7) (h := kqp)
  clear kqp0 kqp1 kqpl
  obtain ⟨kqp0, kqp1, kqpl⟩ := row_two kqp
  have kx : w7.heap[w6.heap.size]? = some (.cells #[.slice X6 (List.length ls) c6, .slice Y6 (List.length vs) d6] 33 (0, 0)) := keep_blk (hb := b7) (h := by repeat (first | (refine blk_new ?_; (first | rfl | (simp; done) | (simp; omega))) | refine blk_drewN ?_ | refine blk_old ?_))
  obtain ⟨kx0, kx1, kxl⟩ := row_two kx
  replace g7 : w6.heap.size ≤ M7 := Nat.le_trans (Below.size (B := w6.heap.size) (by repeat (first | exact Below.refl _ _ | assumption | apply bl_alloc | apply bl_drewN | apply Below.drew | (refine bl_set ?_ (by first | exact Nat.le_refl _ | (simp; done) | (simp; omega)) _) | (refine bl_trans ?_ (by assumption))))) g7
  replace o7 := o7.wide (B' := w6.heap.size) (E' := M7) (Below.size (B := w6.heap.size) (by repeat (first | exact Below.refl _ _ | assumption | apply bl_alloc | apply bl_drewN | apply Below.drew | (refine bl_set ?_ (by first | exact Nat.le_refl _ | (simp; done) | (simp; omega)) _) | (refine bl_trans ?_ (by assumption))))) (Nat.le_refl _)
  go_wp2_with fail
  refine (implSameCurve _ _ _ _ _ _ _ _ _ ls vs ms us ((o6.below (Below.mono (B := w7.heap.size) (by repeat (first | exact Below.refl _ _ | assumption | apply bl_alloc | apply bl_drewN | apply Below.drew | (refine bl_set ?_ (by first | exact Nat.le_refl _ | (simp; done) | (simp; omega)) _) | (refine bl_trans ?_ (by assumption)))) (by omega))).rc) ((p6.below (Below.mono (B := w7.heap.size) (by repeat (first | exact Below.refl _ _ | assumption | apply bl_alloc | apply bl_drewN | apply Below.drew | (refine bl_set ?_ (by first | exact Nat.le_refl _ | (simp; done) | (simp; omega)) _) | (refine bl_trans ?_ (by assumption)))) (by omega))).rc) ((o7.below (Below.mono (B := w7.heap.size) (by repeat (first | exact Below.refl _ _ | assumption | apply bl_alloc | apply bl_drewN | apply Below.drew | (refine bl_set ?_ (by first | exact Nat.le_refl _ | (simp; done) | (simp; omega)) _) | (refine bl_trans ?_ (by assumption)))) (by omega))).rc) ((p7.below (Below.mono (B := w7.heap.size) (by repeat (first | exact Below.refl _ _ | assumption | apply bl_alloc | apply bl_drewN | apply Below.drew | (refine bl_set ?_ (by first | exact Nat.le_refl _ | (simp; done) | (simp; omega)) _) | (refine bl_trans ?_ (by assumption)))) (by omega))).rc) hmls hmvs hmms hmus).mono ?_
  rintro e w8 ⟨rfl, b8⟩
  have s8 : Below w7.heap.size w7 w8 := (by repeat (first | exact Below.refl _ _ | assumption | apply bl_alloc | apply bl_drewN | apply Below.drew | (refine bl_set ?_ (by first | exact Nat.le_refl _ | (simp; done) | (simp; omega)) _) | (refine bl_trans ?_ (by assumption))))
  have z8 := s8.size
  have t8 : Below w.heap.size w w8 := t7.trans (s8.mono (by omega))
  replace o6 := o6.below (s8.mono (by omega))
  replace p6 := p6.below (s8.mono (by omega))
  replace o7 := o7.below (s8.mono (by omega))
  replace p7 := p7.below (s8.mono (by omega))
  replace kp : w8.heap[w.heap.size]? = some (.cells #[.slice Als (List.length ls) cls, .slice Avs (List.length vs) cvs] 30 (0, 0)) := keep_blk (hb := s8) (h := kp)
  clear kp0 kp1 kpl
  obtain ⟨kp0, kp1, kpl⟩ := row_two kp
  replace kqp : w8.heap[w.heap.size + 1]? = some (.cells #[.slice Ams (List.length ms) cms, .slice Aus (List.length us) cus] 30 (0, 0)) := keep_blk (hb := s8) (h := kqp)
  clear kqp0 kqp1 kqpl
  obtain ⟨kqp0, kqp1, kqpl⟩ := row_two kqp
  replace kx : w8.heap[w6.heap.size]? = some (.cells #[.slice X6 (List.length ls) c6, .slice Y6 (List.length vs) d6] 33 (0, 0)) := keep_blk (hb := s8) (h := kx)
  clear kx0 kx1 kxl
  obtain ⟨kx0, kx1, kxl⟩ := row_two kx
  have kyx : w8.heap[w7.heap.size]? = some (.cells #[.slice X7 (List.length ms) c7, .slice Y7 (List.length us) d7] 33 (0, 0)) := keep_blk (hb := b8) (h := by repeat (first | (refine blk_new ?_; (first | rfl | (simp; done) | (simp; omega))) | refine blk_drewN ?_ | refine blk_old ?_))
  obtain ⟨kyx0, kyx1, kyxl⟩ := row_two kyx
  go_wp2_with fail
  go_region_held3 (fun w' => w'.cell? ⟨w6.heap.size, 0, none⟩ = some (.slice X6 (List.length ls) c6) ∧ w'.cell? ⟨w6.heap.size, 1, none⟩ = some (.slice Y6 (List.length vs) d6) ∧ w'.cell? ⟨w.heap.size, 0, none⟩ = some (.slice Als (List.length ls) cls) ∧ w'.cell? ⟨w.heap.size, 1, none⟩ = some (.slice Avs (List.length vs) cvs)) (first | go_keep | (refine ⟨?_, ?_, ?_, ?_⟩ <;> assumption)) (first | (go_at_call 22; refine (toCurve_any _ _ _ _ _ _ _ (rls.below (by repeat (first | exact Below.refl _ _ | assumption | apply bl_alloc | apply bl_drewN | apply Below.drew | (refine bl_set ?_ (by first | exact Nat.le_refl _ | (simp; done) | (simp; omega)) _) | (refine bl_trans ?_ (by assumption))))) (rvs.below (by repeat (first | exact Below.refl _ _ | assumption | apply bl_alloc | apply bl_drewN | apply Below.drew | (refine bl_set ?_ (by first | exact Nat.le_refl _ | (simp; done) | (simp; omega)) _) | (refine bl_trans ?_ (by assumption))))) hmls hmvs).mono ?_; rintro e w9 ⟨X9, c9, Y9, d9, M9, rfl, g9, h9, o9, p9, b9⟩; have s9 : Below w8.heap.size w8 w9 := (by repeat (first | exact Below.refl _ _ | assumption | apply bl_alloc | apply bl_drewN | apply Below.drew | (refine bl_set ?_ (by first | exact Nat.le_refl _ | (simp; done) | (simp; omega)) _) | (refine bl_trans ?_ (by assumption)))); have z9 := s9.size; have t9 : Below w.heap.size w w9 := t8.trans (s9.mono (by omega)); replace o6 := o6.below (s9.mono (by omega)); replace p6 := p6.below (s9.mono (by omega)); replace o7 := o7.below (s9.mono (by omega)); replace p7 := p7.below (s9.mono (by omega)); replace kp : w9.heap[w.heap.size]? = some (.cells #[.slice Als (List.length ls) cls, .slice Avs (List.length vs) cvs] 30 (0, 0)) := keep_blk (hb := s9) (h := kp); clear kp0 kp1 kpl; obtain ⟨kp0, kp1, kpl⟩ := row_two kp; replace kqp : w9.heap[w.heap.size + 1]? = some (.cells #[.slice Ams (List.length ms) cms, .slice Aus (List.length us) cus] 30 (0, 0)) := keep_blk (hb := s9) (h := kqp); clear kqp0 kqp1 kqpl; obtain ⟨kqp0, kqp1, kqpl⟩ := row_two kqp; replace kx : w9.heap[w6.heap.size]? = some (.cells #[.slice X6 (List.length ls) c6, .slice Y6 (List.length vs) d6] 33 (0, 0)) := keep_blk (hb := s9) (h := kx); clear kx0 kx1 kxl; obtain ⟨kx0, kx1, kxl⟩ := row_two kx; replace kyx : w9.heap[w7.heap.size]? = some (.cells #[.slice X7 (List.length ms) c7, .slice Y7 (List.length us) d7] 33 (0, 0)) := keep_blk (hb := s9) (h := kyx); clear kyx0 kyx1 kyxl; obtain ⟨kyx0, kyx1, kyxl⟩ := row_two kyx; replace g9 : w8.heap.size ≤ M9 := Nat.le_trans (Below.size (B := w8.heap.size) (by repeat (first | exact Below.refl _ _ | assumption | apply bl_alloc | apply bl_drewN | apply Below.drew | (refine bl_set ?_ (by first | exact Nat.le_refl _ | (simp; done) | (simp; omega)) _) | (refine bl_trans ?_ (by assumption))))) g9; replace o9 := o9.wide (B' := w8.heap.size) (E' := M9) (Below.size (B := w8.heap.size) (by repeat (first | exact Below.refl _ _ | assumption | apply bl_alloc | apply bl_drewN | apply Below.drew | (refine bl_set ?_ (by first | exact Nat.le_refl _ | (simp; done) | (simp; omega)) _) | (refine bl_trans ?_ (by assumption))))) (Nat.le_refl _)) | (go_at_call 24; refine (eqCurve_any _ _ _ _ _ _ _ _ _ _ _ ((o6.below (Below.mono (B := w9.heap.size) (by repeat (first | exact Below.refl _ _ | assumption | apply bl_alloc | apply bl_drewN | apply Below.drew | (refine bl_set ?_ (by first | exact Nat.le_refl _ | (simp; done) | (simp; omega)) _) | (refine bl_trans ?_ (by assumption)))) (by omega))).rc) ((p6.below (Below.mono (B := w9.heap.size) (by repeat (first | exact Below.refl _ _ | assumption | apply bl_alloc | apply bl_drewN | apply Below.drew | (refine bl_set ?_ (by first | exact Nat.le_refl _ | (simp; done) | (simp; omega)) _) | (refine bl_trans ?_ (by assumption)))) (by omega))).rc) ((o9.below (Below.mono (B := w9.heap.size) (by repeat (first | exact Below.refl _ _ | assumption | apply bl_alloc | apply bl_drewN | apply Below.drew | (refine bl_set ?_ (by first | exact Nat.le_refl _ | (simp; done) | (simp; omega)) _) | (refine bl_trans ?_ (by assumption)))) (by omega))).rc) ((p9.below (Below.mono (B := w9.heap.size) (by repeat (first | exact Below.refl _ _ | assumption | apply bl_alloc | apply bl_drewN | apply Below.drew | (refine bl_set ?_ (by first | exact Nat.le_refl _ | (simp; done) | (simp; omega)) _) | (refine bl_trans ?_ (by assumption)))) (by omega))).rc) hmls hmvs).mono ?_; rintro e w10 ⟨rfl, b10⟩; have s10 : Below w9.heap.size w9 w10 := (by repeat (first | exact Below.refl _ _ | assumption | apply bl_alloc | apply bl_drewN | apply Below.drew | (refine bl_set ?_ (by first | exact Nat.le_refl _ | (simp; done) | (simp; omega)) _) | (refine bl_trans ?_ (by assumption)))); have z10 := s10.size; have t10 : Below w.heap.size w w10 := t9.trans (s10.mono (by omega)); replace o6 := o6.below (s10.mono (by omega)); replace p6 := p6.below (s10.mono (by omega)); replace o7 := o7.below (s10.mono (by omega)); replace p7 := p7.below (s10.mono (by omega)); replace o9 := o9.below (s10.mono (by omega)); replace p9 := p9.below (s10.mono (by omega)); replace kp : w10.heap[w.heap.size]? = some (.cells #[.slice Als (List.length ls) cls, .slice Avs (List.length vs) cvs] 30 (0, 0)) := keep_blk (hb := s10) (h := kp); clear kp0 kp1 kpl; obtain ⟨kp0, kp1, kpl⟩ := row_two kp; replace kqp : w10.heap[w.heap.size + 1]? = some (.cells #[.slice Ams (List.length ms) cms, .slice Aus (List.length us) cus] 30 (0, 0)) := keep_blk (hb := s10) (h := kqp); clear kqp0 kqp1 kqpl; obtain ⟨kqp0, kqp1, kqpl⟩ := row_two kqp; replace kx : w10.heap[w6.heap.size]? = some (.cells #[.slice X6 (List.length ls) c6, .slice Y6 (List.length vs) d6] 33 (0, 0)) := keep_blk (hb := s10) (h := kx); clear kx0 kx1 kxl; obtain ⟨kx0, kx1, kxl⟩ := row_two kx; replace kyx : w10.heap[w7.heap.size]? = some (.cells #[.slice X7 (List.length ms) c7, .slice Y7 (List.length us) d7] 33 (0, 0)) := keep_blk (hb := s10) (h := kyx); clear kyx0 kyx1 kyxl; obtain ⟨kyx0, kyx1, kyxl⟩ := row_two kyx))
  clear o9 p9
  go_wp2_with fail
  go_region_held3 (fun w' => w'.cell? ⟨w7.heap.size, 0, none⟩ = some (.slice X7 (List.length ms) c7) ∧ w'.cell? ⟨w7.heap.size, 1, none⟩ = some (.slice Y7 (List.length us) d7) ∧ w'.cell? ⟨w.heap.size + 1, 0, none⟩ = some (.slice Ams (List.length ms) cms) ∧ w'.cell? ⟨w.heap.size + 1, 1, none⟩ = some (.slice Aus (List.length us) cus)) (first | go_keep | (refine ⟨?_, ?_, ?_, ?_⟩ <;> assumption)) (first | (go_at_call 22; refine (toCurve_any _ _ _ _ _ _ _ (rms.below (by repeat (first | exact Below.refl _ _ | assumption | apply bl_alloc | apply bl_drewN | apply Below.drew | (refine bl_set ?_ (by first | exact Nat.le_refl _ | (simp; done) | (simp; omega)) _) | (refine bl_trans ?_ (by assumption))))) (rus.below (by repeat (first | exact Below.refl _ _ | assumption | apply bl_alloc | apply bl_drewN | apply Below.drew | (refine bl_set ?_ (by first | exact Nat.le_refl _ | (simp; done) | (simp; omega)) _) | (refine bl_trans ?_ (by assumption))))) hmms hmus).mono ?_; rintro e w11 ⟨X11, c11, Y11, d11, M11, rfl, g11, h11, o11, p11, b11⟩; have s11 : Below w10.heap.size w10 w11 := (by repeat (first | exact Below.refl _ _ | assumption | apply bl_alloc | apply bl_drewN | apply Below.drew | (refine bl_set ?_ (by first | exact Nat.le_refl _ | (simp; done) | (simp; omega)) _) | (refine bl_trans ?_ (by assumption)))); have z11 := s11.size; have t11 : Below w.heap.size w w11 := t10.trans (s11.mono (by omega)); replace o6 := o6.below (s11.mono (by omega)); replace p6 := p6.below (s11.mono (by omega)); replace o7 := o7.below (s11.mono (by omega)); replace p7 := p7.below (s11.mono (by omega)); replace kp : w11.heap[w.heap.size]? = some (.cells #[.slice Als (List.length ls) cls, .slice Avs (List.length vs) cvs] 30 (0, 0)) := keep_blk (hb := s11) (h := kp); clear kp0 kp1 kpl; obtain ⟨kp0, kp1, kpl⟩ := row_two kp; replace kqp : w11.heap[w.heap.size + 1]? = some (.cells #[.slice Ams (List.length ms) cms, .slice Aus (List.length us) cus] 30 (0, 0)) := keep_blk (hb := s11) (h := kqp); clear kqp0 kqp1 kqpl; obtain ⟨kqp0, kqp1, kqpl⟩ := row_two kqp; replace kx : w11.heap[w6.heap.size]? = some (.cells #[.slice X6 (List.length ls) c6, .slice Y6 (List.length vs) d6] 33 (0, 0)) := keep_blk (hb := s11) (h := kx); clear kx0 kx1 kxl; obtain ⟨kx0, kx1, kxl⟩ := row_two kx; replace kyx : w11.heap[w7.heap.size]? = some (.cells #[.slice X7 (List.length ms) c7, .slice Y7 (List.length us) d7] 33 (0, 0)) := keep_blk (hb := s11) (h := kyx); clear kyx0 kyx1 kyxl; obtain ⟨kyx0, kyx1, kyxl⟩ := row_two kyx; replace g11 : w10.heap.size ≤ M11 := Nat.le_trans (Below.size (B := w10.heap.size) (by repeat (first | exact Below.refl _ _ | assumption | apply bl_alloc | apply bl_drewN | apply Below.drew | (refine bl_set ?_ (by first | exact Nat.le_refl _ | (simp; done) | (simp; omega)) _) | (refine bl_trans ?_ (by assumption))))) g11; replace o11 := o11.wide (B' := w10.heap.size) (E' := M11) (Below.size (B := w10.heap.size) (by repeat (first | exact Below.refl _ _ | assumption | apply bl_alloc | apply bl_drewN | apply Below.drew | (refine bl_set ?_ (by first | exact Nat.le_refl _ | (simp; done) | (simp; omega)) _) | (refine bl_trans ?_ (by assumption))))) (Nat.le_refl _)) | (go_at_call 24; refine (eqCurve_any _ _ _ _ _ _ _ _ _ _ _ ((o7.below (Below.mono (B := w11.heap.size) (by repeat (first | exact Below.refl _ _ | assumption | apply bl_alloc | apply bl_drewN | apply Below.drew | (refine bl_set ?_ (by first | exact Nat.le_refl _ | (simp; done) | (simp; omega)) _) | (refine bl_trans ?_ (by assumption)))) (by omega))).rc) ((p7.below (Below.mono (B := w11.heap.size) (by repeat (first | exact Below.refl _ _ | assumption | apply bl_alloc | apply bl_drewN | apply Below.drew | (refine bl_set ?_ (by first | exact Nat.le_refl _ | (simp; done) | (simp; omega)) _) | (refine bl_trans ?_ (by assumption)))) (by omega))).rc) ((o11.below (Below.mono (B := w11.heap.size) (by repeat (first | exact Below.refl _ _ | assumption | apply bl_alloc | apply bl_drewN | apply Below.drew | (refine bl_set ?_ (by first | exact Nat.le_refl _ | (simp; done) | (simp; omega)) _) | (refine bl_trans ?_ (by assumption)))) (by omega))).rc) ((p11.below (Below.mono (B := w11.heap.size) (by repeat (first | exact Below.refl _ _ | assumption | apply bl_alloc | apply bl_drewN | apply Below.drew | (refine bl_set ?_ (by first | exact Nat.le_refl _ | (simp; done) | (simp; omega)) _) | (refine bl_trans ?_ (by assumption)))) (by omega))).rc) hmms hmus).mono ?_; rintro e w12 ⟨rfl, b12⟩; have s12 : Below w11.heap.size w11 w12 := (by repeat (first | exact Below.refl _ _ | assumption | apply bl_alloc | apply bl_drewN | apply Below.drew | (refine bl_set ?_ (by first | exact Nat.le_refl _ | (simp; done) | (simp; omega)) _) | (refine bl_trans ?_ (by assumption)))); have z12 := s12.size; have t12 : Below w.heap.size w w12 := t11.trans (s12.mono (by omega)); replace o6 := o6.below (s12.mono (by omega)); replace p6 := p6.below (s12.mono (by omega)); replace o7 := o7.below (s12.mono (by omega)); replace p7 := p7.below (s12.mono (by omega)); replace o11 := o11.below (s12.mono (by omega)); replace p11 := p11.below (s12.mono (by omega)); replace kp : w12.heap[w.heap.size]? = some (.cells #[.slice Als (List.length ls) cls, .slice Avs (List.length vs) cvs] 30 (0, 0)) := keep_blk (hb := s12) (h := kp); clear kp0 kp1 kpl; obtain ⟨kp0, kp1, kpl⟩ := row_two kp; replace kqp : w12.heap[w.heap.size + 1]? = some (.cells #[.slice Ams (List.length ms) cms, .slice Aus (List.length us) cus] 30 (0, 0)) := keep_blk (hb := s12) (h := kqp); clear kqp0 kqp1 kqpl; obtain ⟨kqp0, kqp1, kqpl⟩ := row_two kqp; replace kx : w12.heap[w6.heap.size]? = some (.cells #[.slice X6 (List.length ls) c6, .slice Y6 (List.length vs) d6] 33 (0, 0)) := keep_blk (hb := s12) (h := kx); clear kx0 kx1 kxl; obtain ⟨kx0, kx1, kxl⟩ := row_two kx; replace kyx : w12.heap[w7.heap.size]? = some (.cells #[.slice X7 (List.length ms) c7, .slice Y7 (List.length us) d7] 33 (0, 0)) := keep_blk (hb := s12) (h := kyx); clear kyx0 kyx1 kyxl; obtain ⟨kyx0, kyx1, kyxl⟩ := row_two kyx))
  clear o11 p11
  go_wp2
  go_ret
  exact ⟨rfl, by repeat (first | exact Below.refl _ _ | assumption | apply bl_alloc | apply bl_drewN | apply Below.drew | (refine bl_set ?_ (by first | exact Nat.le_refl _ | (simp; done) | (simp; omega)) _) | (refine bl_trans ?_ (by assumption)))⟩

theorem own : ownKnob Try.prog.godebug = none := by kernel_rfl
theorem laidOut : laidOutB Try.prog = true := by kernel_rfl
set_option maxRecDepth 100000 in
theorem lifted (os : Os) (started : os.Started) (H : Type) (enc : TypeId × Value → H) :
    ReturnsInHanded {} Try.checked os 5 .any (Rows.fnExactSameCurveSpec.pre6 enc Try.prog Try.f5 Rows.fnExactSameCurveRow.domain false) (Rows.fnExactSameCurveSpec.post enc Try.prog Try.f5 false true false false) := by
  refine returnsInHanded_of_change (C := Try.checked) own started (by kernel_rfl) Try.func5
    (ChangeSpec.witness6 (enc := enc) (C := Try.checked) false ⟨#[], #[.agg #[.slice none 0 0, .slice none 0 0], .agg #[.slice none 0 0, .slice none 0 0]], []⟩ 8 (by kernel_rfl) (by kernel_rfl) (by kernel_rfl) (by kernel_rfl)) ?_
  intro W base args ds gs before hval0 hW hcnd _
  have hval : ∀ (j : Nat) t v, Try.f5.params[j]? = some t → args[j]? = some v → Value.okWide Try.prog W .any base t v := hval0
  have hW' := hW
  obtain ⟨p, q, hA0, hV, rfl, hfz, hnd⟩ := hW
  have hA : DataW.TrodAll enc Try.prog W 0 (fun _ => true) true Try.f5.params.toList args.toList ds p := hA0
  rw [Try.params5] at hA hval
  obtain ⟨v0, vs0, d0, ds0, p0, q0, hargs, rfl, rfl, h0, r0⟩ := trodAll_cons hA
  obtain ⟨v1, vs1, d1, ds1, p1, q1, rfl, rfl, rfl, h1, r1⟩ := trodAll_cons r0
  obtain ⟨rfl, rfl, rfl⟩ := trodAll_nil r1
  obtain rfl : args = #[v0, v1] := by cases args; simp_all
  obtain ⟨rfl, rfl⟩ := trodVars_none hV
  have k0 := h0
  have lt0 : ∀ x ∈ p0, x.block < W.heap.size := by obtain ⟨m, hm⟩ := k0; exact DataW.trod_lt m _ _ _ hm
  obtain ⟨e0_0, e0_1, y0_0, y0_1, fu0, rfl, _, _, hy0_0, hy0_1⟩ := open_agg2 Try.underlying30 (by kernel_rfl) (by kernel_rfl) (hval 0 30 v0 rfl rfl) h0
  obtain ⟨Als, ls, cls, hc0_0, rls, mls⟩ := open_list Try.underlying23 Try.underlying2 (by kernel_rfl) hy0_0
  simp only [List.cons.injEq, and_true] at hc0_0
  subst hc0_0
  obtain ⟨Avs, vs, cvs, hc0_1, rvs, mvs⟩ := open_list Try.underlying23 Try.underlying2 (by kernel_rfl) hy0_1
  simp only [List.cons.injEq, and_true] at hc0_1
  subst hc0_1
  have k1 := h1
  have lt1 : ∀ x ∈ p1, x.block < W.heap.size := by obtain ⟨m, hm⟩ := k1; exact DataW.trod_lt m _ _ _ hm
  obtain ⟨e1_0, e1_1, y1_0, y1_1, fu1, rfl, _, _, hy1_0, hy1_1⟩ := open_agg2 Try.underlying30 (by kernel_rfl) (by kernel_rfl) (hval 1 30 v1 rfl rfl) h1
  obtain ⟨Ams, ms, cms, hc1_0, rms, mms⟩ := open_list Try.underlying23 Try.underlying2 (by kernel_rfl) hy1_0
  simp only [List.cons.injEq, and_true] at hc1_0
  subst hc1_0
  obtain ⟨Aus, us, cus, hc1_1, rus, mus⟩ := open_list Try.underlying23 Try.underlying2 (by kernel_rfl) hy1_1
  simp only [List.cons.injEq, and_true] at hc1_1
  subst hc1_1
  refine (walk Als ls cls Avs vs cvs Ams ms cms Aus us cus W rls mls rvs mvs rms mms rus mus).mono fun e W' ⟨he, bel⟩ => ?_
  subst he
  exact ⟨_, rfl, _, _, _, [], _, [], hW', trodAll_mk1 (shut_bool Try.underlying4 _), (trodAll_cons_mk (Below.trod laidOut (by kernel_rfl) (of_decide_eq_true (by kernel_rfl)) k0 bel lt0) (trodAll_cons_mk (Below.trod laidOut (by kernel_rfl) (of_decide_eq_true (by kernel_rfl)) k1 bel lt1) trodAll_mk0)), rfl, bel.frame _, fun h => by cases h⟩
theorem over : Rows.fnExactSameCurveRow.holds Try.pinned (OpenSpec.ofChange Rows.fnExactSameCurveSpec) :=
  OpenClaim.holds_of_wide 5 Try.f5 rfl rfl rfl rfl rfl rfl rfl ⟨rfl, rfl, rfl, rfl, rfl⟩ rfl rfl rfl rfl rfl (by kernel_rfl) Try.func5 (by kernel_rfl)
    (of_decide_eq_true (by kernel_rfl)) (by unfold Func.isWrapper; first | (rw [if_pos (by decide +kernel)]; kernel_rfl) | (rw [if_neg (by decide +kernel)]; exact ⟨rfl, rfl⟩))
    (fun os started H enc _ => lifted os started H enc)
/-- the statement -/
theorem proved : Rows.FnExactSameCurveSaid := over
#print axioms proved
end Go.Proofs.Ytnhdhjijdcdilaa.fnExactSameCurve
