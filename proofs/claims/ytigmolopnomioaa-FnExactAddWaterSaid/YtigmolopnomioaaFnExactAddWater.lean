/-
  The law 'FnExactAddWater' holds for every input: the level with more water is the reference's. No condition.
  The frame follows the kit's template for such a statement; the walk is ours.
-/
import Derived.Test.YtigmolopnomioaaRows
import Derived.Test.YtigmolopnomioaaWater
import Derived.Test.YtigmolopnomioaaOpen
import Derived.Lib.SmallJoins
namespace Go.Proofs.Ytigmolopnomioaa.fnExactAddWater
open Go.ChangeShapes Go.WideShapes Go.ChangeAt Go.RowKit Go.Joins
open Go.ChangeMaps (open_string shut_string)
set_option linter.unusedVariables false
set_option maxHeartbeats 2000000 in
theorem walk (Als : Option Addr) (ls : List Int) (cls : Nat) (Avs : Option Addr) (vs : List Int) (cvs : Nat) (y : Int) (v : Int) (w : World) (rls : RC w Als (ints ls)) (mls : ls.length ≤ 9223372036854775807) (rvs : RC w Avs (ints vs)) (mvs : vs.length ≤ 9223372036854775807) (wy : (Lit.int .i64 y).wf = true) (wv : (Lit.int .i64 v).wf = true) :
    Calls Try.prog 8 #[.agg #[.slice Als (List.length ls) cls, .slice Avs (List.length vs) cvs], .int .i64 y, .int .i64 v] w fun e w' => e = .returned (.bool true) ∧ Below w.heap.size w w' := by
  clear wy wv
  by_cases hmm : ls.length + vs.length ≤ 1048576
  · have hm : ls.length ≤ 1048576 := by omega
    have hm2 : vs.length ≤ 1048576 := by omega
    go_enter Try.func8, Try.ntmps8
    go_wp2_with fail
    refine (szCurve_yes _ _ _ _ _ _ _ _ (by omega) (by omega)).mono ?_
    rintro e w1 ⟨rfl, b1⟩
    have s1 : Below w.heap.size w w1 := by repeat (first | exact Below.refl _ _ | assumption | apply bl_alloc | apply bl_drewN | apply Below.drew | (refine bl_set ?_ (by first | exact Nat.le_refl _ | (simp; done) | (simp; omega)) _) | (refine bl_trans ?_ (by assumption)))
    have z1 := s1.size
    have t1 : Below w.heap.size w w1 := s1
    have kp : w1.heap[w.heap.size]? = some (.cells #[.slice Als ls.length cls, .slice Avs vs.length cvs] 24 (0, 0)) := keep_blk (hb := b1) (h := by repeat (first | (refine blk_new ?_; (first | rfl | (simp; done) | (simp; omega))) | refine blk_drewN ?_ | refine blk_old ?_))
    obtain ⟨kp0, kp1, kpl⟩ := row_two kp
    go_wp2_with fail
    refine (toCurve_any _ _ _ _ _ _ _ (rls.below (by repeat (first | exact Below.refl _ _ | assumption | apply bl_alloc | apply bl_drewN | apply Below.drew | (refine bl_set ?_ (by first | exact Nat.le_refl _ | (simp; done) | (simp; omega)) _) | (refine bl_trans ?_ (by assumption))))) (rvs.below (by repeat (first | exact Below.refl _ _ | assumption | apply bl_alloc | apply bl_drewN | apply Below.drew | (refine bl_set ?_ (by first | exact Nat.le_refl _ | (simp; done) | (simp; omega)) _) | (refine bl_trans ?_ (by assumption))))) hm hm2).mono ?_
    rintro e w2 ⟨X1, c1, Y1, d1, M1, rfl, g1, h1, o1, p1, b2⟩
    have s2 : Below w1.heap.size w1 w2 := by repeat (first | exact Below.refl _ _ | assumption | apply bl_alloc | apply bl_drewN | apply Below.drew | (refine bl_set ?_ (by first | exact Nat.le_refl _ | (simp; done) | (simp; omega)) _) | (refine bl_trans ?_ (by assumption)))
    have z2 := s2.size
    have t2 : Below w.heap.size w w2 := t1.trans (s2.mono (by omega))
    have kp : w2.heap[w.heap.size]? = some (.cells #[.slice Als ls.length cls, .slice Avs vs.length cvs] 24 (0, 0)) := keep_blk (hb := b2) (h := by first | exact kp | (repeat (first | exact kp | refine blk_drewN ?_ | refine blk_old ?_)))
    obtain ⟨kp0, kp1, kpl⟩ := row_two kp
    go_wp2_with fail
    refine (specAddWater _ _ _ _ _ ls vs y v ((o1.below (Below.mono (B := w2.heap.size) (by repeat (first | exact Below.refl _ _ | assumption | apply bl_alloc | apply bl_drewN | apply Below.drew | (refine bl_set ?_ (by first | exact Nat.le_refl _ | (simp; done) | (simp; omega)) _) | (refine bl_trans ?_ (by assumption)))) (by omega))).rc) ((p1.below (Below.mono (B := w2.heap.size) (by repeat (first | exact Below.refl _ _ | assumption | apply bl_alloc | apply bl_drewN | apply Below.drew | (refine bl_set ?_ (by first | exact Nat.le_refl _ | (simp; done) | (simp; omega)) _) | (refine bl_trans ?_ (by assumption)))) (by omega))).rc) hm hm2).mono ?_
    rintro e w3 ⟨rfl, b3⟩
    have s3 : Below w2.heap.size w2 w3 := by repeat (first | exact Below.refl _ _ | assumption | apply bl_alloc | apply bl_drewN | apply Below.drew | (refine bl_set ?_ (by first | exact Nat.le_refl _ | (simp; done) | (simp; omega)) _) | (refine bl_trans ?_ (by assumption)))
    have z3 := s3.size
    have t3 : Below w.heap.size w w3 := t2.trans (s3.mono (by omega))
    have o1 := o1.below (s3.mono (by omega))
    have p1 := p1.below (s3.mono (by omega))
    have kp : w3.heap[w.heap.size]? = some (.cells #[.slice Als ls.length cls, .slice Avs vs.length cvs] 24 (0, 0)) := keep_blk (hb := b3) (h := by first | exact kp | (repeat (first | exact kp | refine blk_drewN ?_ | refine blk_old ?_)))
    obtain ⟨kp0, kp1, kpl⟩ := row_two kp
    go_wp2_with fail
    refine (toCurve_any _ _ _ _ _ _ _ (rls.below (by repeat (first | exact Below.refl _ _ | assumption | apply bl_alloc | apply bl_drewN | apply Below.drew | (refine bl_set ?_ (by first | exact Nat.le_refl _ | (simp; done) | (simp; omega)) _) | (refine bl_trans ?_ (by assumption))))) (rvs.below (by repeat (first | exact Below.refl _ _ | assumption | apply bl_alloc | apply bl_drewN | apply Below.drew | (refine bl_set ?_ (by first | exact Nat.le_refl _ | (simp; done) | (simp; omega)) _) | (refine bl_trans ?_ (by assumption))))) hm hm2).mono ?_
    rintro e w4 ⟨X2, c2, Y2, d2, M2, rfl, g2, h2, o2, p2, b4⟩
    have s4 : Below w3.heap.size w3 w4 := by repeat (first | exact Below.refl _ _ | assumption | apply bl_alloc | apply bl_drewN | apply Below.drew | (refine bl_set ?_ (by first | exact Nat.le_refl _ | (simp; done) | (simp; omega)) _) | (refine bl_trans ?_ (by assumption)))
    have z4 := s4.size
    have t4 : Below w.heap.size w w4 := t3.trans (s4.mono (by omega))
    have o1 := o1.below (s4.mono (by omega))
    have p1 := p1.below (s4.mono (by omega))
    have kp : w4.heap[w.heap.size]? = some (.cells #[.slice Als ls.length cls, .slice Avs vs.length cvs] 24 (0, 0)) := keep_blk (hb := b4) (h := by first | exact kp | (repeat (first | exact kp | refine blk_drewN ?_ | refine blk_old ?_)))
    obtain ⟨kp0, kp1, kpl⟩ := row_two kp
    go_wp2_with fail
    refine (implAddWater _ _ _ _ _ ls vs y v ((o2.below (Below.mono (B := w4.heap.size) (by repeat (first | exact Below.refl _ _ | assumption | apply bl_alloc | apply bl_drewN | apply Below.drew | (refine bl_set ?_ (by first | exact Nat.le_refl _ | (simp; done) | (simp; omega)) _) | (refine bl_trans ?_ (by assumption)))) (by omega))).rc) ((p2.below (Below.mono (B := w4.heap.size) (by repeat (first | exact Below.refl _ _ | assumption | apply bl_alloc | apply bl_drewN | apply Below.drew | (refine bl_set ?_ (by first | exact Nat.le_refl _ | (simp; done) | (simp; omega)) _) | (refine bl_trans ?_ (by assumption)))) (by omega))).rc) hm hm2).mono ?_
    rintro e w5 ⟨rfl, b5⟩
    have s5 : Below w4.heap.size w4 w5 := by repeat (first | exact Below.refl _ _ | assumption | apply bl_alloc | apply bl_drewN | apply Below.drew | (refine bl_set ?_ (by first | exact Nat.le_refl _ | (simp; done) | (simp; omega)) _) | (refine bl_trans ?_ (by assumption)))
    have z5 := s5.size
    have t5 : Below w.heap.size w w5 := t4.trans (s5.mono (by omega))
    have o1 := o1.below (s5.mono (by omega))
    have p1 := p1.below (s5.mono (by omega))
    have o2 := o2.below (s5.mono (by omega))
    have p2 := p2.below (s5.mono (by omega))
    have kp : w5.heap[w.heap.size]? = some (.cells #[.slice Als ls.length cls, .slice Avs vs.length cvs] 24 (0, 0)) := keep_blk (hb := b5) (h := by first | exact kp | (repeat (first | exact kp | refine blk_drewN ?_ | refine blk_old ?_)))
    obtain ⟨kp0, kp1, kpl⟩ := row_two kp
    have kx : w5.heap[w4.heap.size]? = some (.cells #[.slice X2 ls.length c2, .slice Y2 vs.length d2] 28 (0, 0)) := keep_blk (hb := b5) (h := by repeat (first | (refine blk_new ?_; (first | rfl | (simp; done) | (simp; omega))) | refine blk_drewN ?_ | refine blk_old ?_))
    obtain ⟨kx0, kx1, kxl⟩ := row_two kx
    go_wp2_with fail
    go_region_with (first | (go_at_call 12; refine (toCurve_any _ _ _ _ _ _ _ (rls.below (by repeat (first | exact Below.refl _ _ | assumption | apply bl_alloc | apply bl_drewN | apply Below.drew | (refine bl_set ?_ (by first | exact Nat.le_refl _ | (simp; done) | (simp; omega)) _) | (refine bl_trans ?_ (by assumption))))) (rvs.below (by repeat (first | exact Below.refl _ _ | assumption | apply bl_alloc | apply bl_drewN | apply Below.drew | (refine bl_set ?_ (by first | exact Nat.le_refl _ | (simp; done) | (simp; omega)) _) | (refine bl_trans ?_ (by assumption))))) hm hm2).mono ?_; rintro e w6 ⟨X3, c3, Y3, d3, M3, rfl, g3, h3, o3, p3, b6⟩; have s6 : Below w5.heap.size w5 w6 := (by repeat (first | exact Below.refl _ _ | assumption | apply bl_alloc | apply bl_drewN | apply Below.drew | (refine bl_set ?_ (by first | exact Nat.le_refl _ | (simp; done) | (simp; omega)) _) | (refine bl_trans ?_ (by assumption)))); have t6 : Below w.heap.size w w6 := t5.trans (s6.mono (by omega)); have o2 := o2.below (s6.mono (by omega)); have p2 := p2.below (s6.mono (by omega)); have kx : w6.heap[w4.heap.size]? = some (.cells #[.slice X2 ls.length c2, .slice Y2 vs.length d2] 28 (0, 0)) := keep_blk (hb := b6) (h := by first | exact kx | (repeat (first | exact kx | refine blk_drewN ?_ | refine blk_old ?_))); obtain ⟨kx0, kx1, kxl⟩ := row_two kx) | (go_at_call 14; refine (eqCurve_any _ _ _ _ _ _ _ _ _ _ _ ((o2.below (Below.mono (B := w6.heap.size) (by repeat (first | exact Below.refl _ _ | assumption | apply bl_alloc | apply bl_drewN | apply Below.drew | (refine bl_set ?_ (by first | exact Nat.le_refl _ | (simp; done) | (simp; omega)) _) | (refine bl_trans ?_ (by assumption)))) (by have := s6.size; omega))).rc) ((p2.below (Below.mono (B := w6.heap.size) (by repeat (first | exact Below.refl _ _ | assumption | apply bl_alloc | apply bl_drewN | apply Below.drew | (refine bl_set ?_ (by first | exact Nat.le_refl _ | (simp; done) | (simp; omega)) _) | (refine bl_trans ?_ (by assumption)))) (by have := s6.size; omega))).rc) ((o3.below (Below.mono (B := w6.heap.size) (by repeat (first | exact Below.refl _ _ | assumption | apply bl_alloc | apply bl_drewN | apply Below.drew | (refine bl_set ?_ (by first | exact Nat.le_refl _ | (simp; done) | (simp; omega)) _) | (refine bl_trans ?_ (by assumption)))) (by omega))).rc) ((p3.below (Below.mono (B := w6.heap.size) (by repeat (first | exact Below.refl _ _ | assumption | apply bl_alloc | apply bl_drewN | apply Below.drew | (refine bl_set ?_ (by first | exact Nat.le_refl _ | (simp; done) | (simp; omega)) _) | (refine bl_trans ?_ (by assumption)))) (by omega))).rc) hm hm2).mono ?_; rintro e w7 ⟨rfl, b7⟩))
    all_goals go_wp2
    all_goals go_ret
    all_goals exact ⟨rfl, t6.trans (Below.mono (B := w6.heap.size) (by repeat (first | exact Below.refl _ _ | assumption | apply bl_alloc | apply bl_drewN | apply Below.drew | (refine bl_set ?_ (by first | exact Nat.le_refl _ | (simp; done) | (simp; omega)) _) | (refine bl_trans ?_ (by assumption)))) (by have := s6.size; omega))⟩
  · go_enter Try.func8, Try.ntmps8
    go_wp2_with fail
    refine (szCurve_no _ _ _ _ _ _ _ _ (by omega) (by omega) (by omega) mls mvs).mono ?_
    rintro e w1 ⟨rfl, b1⟩
    go_wp2
    go_ret
    exact ⟨rfl, by repeat (first | exact Below.refl _ _ | assumption | apply bl_alloc | apply bl_drewN | apply Below.drew | (refine bl_set ?_ (by first | exact Nat.le_refl _ | (simp; done) | (simp; omega)) _) | (refine bl_trans ?_ (by assumption)))⟩

theorem own : ownKnob Try.prog.godebug = none := by kernel_rfl
theorem laidOut : laidOutB Try.prog = true := by kernel_rfl
set_option maxRecDepth 100000 in
theorem lifted (os : Os) (started : os.Started) (H : Type) (enc : TypeId × Value → H) :
    ReturnsInHanded {} Try.checked os 8 .any (Rows.fnExactAddWaterSpec.pre6 enc Try.prog Try.f8 Rows.fnExactAddWaterRow.domain false) (Rows.fnExactAddWaterSpec.post enc Try.prog Try.f8 false true false false) := by
  refine returnsInHanded_of_change (C := Try.checked) own started (by kernel_rfl) Try.func8
    (ChangeSpec.witness6 (enc := enc) (C := Try.checked) false ⟨#[], #[.agg #[.slice none 0 0, .slice none 0 0], .int .i64 0, .int .i64 0], []⟩ 8 (by kernel_rfl) (by kernel_rfl) (by kernel_rfl) (by kernel_rfl)) ?_
  intro W base args ds gs before hval0 hW hcnd _
  have hval : ∀ (j : Nat) t v, Try.f8.params[j]? = some t → args[j]? = some v → Value.okWide Try.prog W .any base t v := hval0
  have hW' := hW
  obtain ⟨p, q, hA0, hV, rfl, hfz, hnd⟩ := hW
  have hA : DataW.TrodAll enc Try.prog W 0 (fun _ => true) true Try.f8.params.toList args.toList ds p := hA0
  rw [Try.params8] at hA hval
  obtain ⟨v0, vs0, d0, ds0, p0, q0, hargs, rfl, rfl, h0, r0⟩ := trodAll_cons hA
  obtain ⟨v1, vs1, d1, ds1, p1, q1, rfl, rfl, rfl, h1, r1⟩ := trodAll_cons r0
  obtain ⟨v2, vs2, d2, ds2, p2, q2, rfl, rfl, rfl, h2, r2⟩ := trodAll_cons r1
  obtain ⟨rfl, rfl, rfl⟩ := trodAll_nil r2
  obtain rfl : args = #[v0, v1, v2] := by cases args; simp_all
  obtain ⟨rfl, rfl⟩ := trodVars_none hV
  have k0 := h0
  have lt0 : ∀ x ∈ p0, x.block < W.heap.size := by obtain ⟨m, hm⟩ := k0; exact DataW.trod_lt m _ _ _ hm
  obtain ⟨e0_0, e0_1, y0_0, y0_1, fu0, rfl, _, _, hy0_0, hy0_1⟩ := open_agg2 Try.underlying24 (by kernel_rfl) (by kernel_rfl) (hval 0 24 v0 rfl rfl) h0
  obtain ⟨Als, ls, cls, hc0_0, rls, mls⟩ := open_list Try.underlying22 Try.underlying2 (by kernel_rfl) hy0_0
  simp only [List.cons.injEq, and_true] at hc0_0
  subst hc0_0
  obtain ⟨Avs, vs, cvs, hc0_1, rvs, mvs⟩ := open_list Try.underlying22 Try.underlying2 (by kernel_rfl) hy0_1
  simp only [List.cons.injEq, and_true] at hc0_1
  subst hc0_1
  have k1 := h1
  have lt1 : ∀ x ∈ p1, x.block < W.heap.size := by obtain ⟨m, hm⟩ := k1; exact DataW.trod_lt m _ _ _ hm
  obtain ⟨y, rfl, _, _, wy⟩ := open_int Try.underlying2 (hval 1 2 v1 rfl rfl) h1
  have k2 := h2
  have lt2 : ∀ x ∈ p2, x.block < W.heap.size := by obtain ⟨m, hm⟩ := k2; exact DataW.trod_lt m _ _ _ hm
  obtain ⟨v, rfl, _, _, wv⟩ := open_int Try.underlying2 (hval 2 2 v2 rfl rfl) h2
  refine (walk Als ls cls Avs vs cvs y v W rls mls rvs mvs wy wv).mono fun e W' ⟨he, bel⟩ => ?_
  subst he
  exact ⟨_, rfl, _, _, _, [], _, [], hW', trodAll_mk1 (shut_bool Try.underlying4 _), (trodAll_cons_mk (Below.trod laidOut (by kernel_rfl) (of_decide_eq_true (by kernel_rfl)) k0 bel lt0) (trodAll_cons_mk (Below.trod laidOut (by kernel_rfl) (of_decide_eq_true (by kernel_rfl)) k1 bel lt1) (trodAll_cons_mk (Below.trod laidOut (by kernel_rfl) (of_decide_eq_true (by kernel_rfl)) k2 bel lt2) trodAll_mk0))), rfl, bel.frame _, fun h => by cases h⟩
theorem over : Rows.fnExactAddWaterRow.holds Try.pinned (OpenSpec.ofChange Rows.fnExactAddWaterSpec) :=
  OpenClaim.holds_of_wide 8 Try.f8 rfl rfl rfl rfl rfl rfl rfl ⟨rfl, rfl, rfl, rfl, rfl⟩ rfl rfl rfl rfl rfl (by kernel_rfl) Try.func8 (by kernel_rfl)
    (of_decide_eq_true (by kernel_rfl)) (by unfold Func.isWrapper; first | (rw [if_pos (by decide +kernel)]; kernel_rfl) | (rw [if_neg (by decide +kernel)]; exact ⟨rfl, rfl⟩))
    (fun os started H enc _ => lifted os started H enc)
/-- the statement -/
theorem proved : Rows.FnExactAddWaterSaid := over
#print axioms proved
end Go.Proofs.Ytigmolopnomioaa.fnExactAddWater
