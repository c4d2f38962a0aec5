/-
  The law 'FnExactRoundFraction' holds for every input: the nearest integer of a fraction is the reference's. No condition.
  The frame follows the kit's template for such a statement; the walk is ours.
-/
import Derived.Test.YtgcgbhecpgeheaaRows
import Derived.Test.YtgcgbhecpgeheaaFrac
import Derived.Test.YtgcgbhecpgeheaaOpen
import Derived.Lib.SmallJoins
namespace Go.Proofs.Ytgcgbhecpgeheaa.fnExactRoundFraction
open Go.ChangeShapes Go.WideShapes Go.ChangeAt Go.RowKit Go.Joins
open Go.ChangeMaps (open_string shut_string)
set_option linter.unusedVariables false
set_option maxHeartbeats 800000 in
theorem walk (n d : Int) (w : World) (wn : (Lit.int .i64 n).wf = true) (wd : (Lit.int .i64 d).wf = true) :
    Calls Try.prog 4 #[.agg #[.int .i64 n, .int .i64 d]] w fun e w' => e = .returned (.bool true) ∧ Below w.heap.size w w' := by
  go_enter Try.func4, Try.ntmps4
  go_wp2_with (first | (go_at_call 17; refine (specRound _ _ _).mono ?_; rintro e w1 ⟨rfl, hb1⟩; have hk := keep_blk (hb := hb1) (h := by first | exact hk | exact heap_alloc_new _ _); obtain ⟨hc0, hc1, hlt⟩ := row_two hk) | (go_at_call 18; refine (toFraction_any _ _ _).mono ?_; rintro e w1 ⟨rfl, hb1⟩; have hk := keep_blk (hb := hb1) (h := by first | exact hk | exact heap_alloc_new _ _); obtain ⟨hc0, hc1, hlt⟩ := row_two hk) | (go_at_call 19; refine (implRound _ _ _).mono ?_; rintro e w2 ⟨rfl, hb2⟩) | go_in)
  go_ret
  exact ⟨rfl, by repeat (first | exact Below.refl _ _ | assumption | apply bl_alloc | apply bl_drewN | apply Below.drew | (refine bl_set ?_ (by first | exact Nat.le_refl _ | (simp; done) | (simp; omega)) _) | (refine bl_trans ?_ (by assumption)))⟩

theorem own : ownKnob Try.prog.godebug = none := by kernel_rfl
theorem laidOut : laidOutB Try.prog = true := by kernel_rfl
set_option maxRecDepth 100000 in
theorem lifted (os : Os) (started : os.Started) (H : Type) (enc : TypeId × Value → H) :
    ReturnsInHanded {} Try.checked os 4 .any (Rows.fnExactRoundFractionSpec.pre6 enc Try.prog Try.f4 Rows.fnExactRoundFractionRow.domain false) (Rows.fnExactRoundFractionSpec.post enc Try.prog Try.f4 false true false false) := by
  refine returnsInHanded_of_change (C := Try.checked) own started (by kernel_rfl) Try.func4
    (ChangeSpec.witness6 (enc := enc) (C := Try.checked) false ⟨#[], #[.agg #[.int .i64 0, .int .i64 0]], []⟩ 8 (by kernel_rfl) (by kernel_rfl) (by kernel_rfl) (by kernel_rfl)) ?_
  intro W base args ds gs before hval0 hW hcnd _
  have hval : ∀ (j : Nat) t v, Try.f4.params[j]? = some t → args[j]? = some v → Value.okWide Try.prog W .any base t v := hval0
  have hW' := hW
  obtain ⟨p, q, hA0, hV, rfl, hfz, hnd⟩ := hW
  have hA : DataW.TrodAll enc Try.prog W 0 (fun _ => true) true Try.f4.params.toList args.toList ds p := hA0
  rw [Try.params4] at hA hval
  obtain ⟨v0, vs0, d0, ds0, p0, q0, hargs, rfl, rfl, h0, r0⟩ := trodAll_cons hA
  obtain ⟨rfl, rfl, rfl⟩ := trodAll_nil r0
  obtain rfl : args = #[v0] := by cases args; simp_all
  obtain ⟨rfl, rfl⟩ := trodVars_none hV
  have k0 := h0
  have lt0 : ∀ x ∈ p0, x.block < W.heap.size := by obtain ⟨m, hm⟩ := k0; exact DataW.trod_lt m _ _ _ hm
  obtain ⟨e0_0, e0_1, y0_0, y0_1, fu0, rfl, _, _, hy0_0, hy0_1⟩ := open_agg2 Try.underlying24 (by kernel_rfl) (by kernel_rfl) (hval 0 24 v0 rfl rfl) h0
  obtain ⟨n, hc0_0, _, wn⟩ := DataW.trod_int Try.underlying2 hy0_0
  simp only [List.cons.injEq, and_true] at hc0_0
  subst hc0_0
  obtain ⟨d, hc0_1, _, wd⟩ := DataW.trod_int Try.underlying2 hy0_1
  simp only [List.cons.injEq, and_true] at hc0_1
  subst hc0_1
  refine (walk n d W wn wd).mono fun e W' ⟨he, bel⟩ => ?_
  subst he
  exact ⟨_, rfl, _, _, _, [], _, [], hW', trodAll_mk1 (shut_bool Try.underlying4 _), (trodAll_cons_mk (Below.trod laidOut (by kernel_rfl) (of_decide_eq_true (by kernel_rfl)) k0 bel lt0) trodAll_mk0), rfl, bel.frame _, fun h => by cases h⟩
theorem over : Rows.fnExactRoundFractionRow.holds Try.pinned (OpenSpec.ofChange Rows.fnExactRoundFractionSpec) :=
  OpenClaim.holds_of_wide 4 Try.f4 rfl rfl rfl rfl rfl rfl rfl ⟨rfl, rfl, rfl, rfl, rfl⟩ rfl rfl rfl rfl rfl (by kernel_rfl) Try.func4 (by kernel_rfl)
    (of_decide_eq_true (by kernel_rfl)) (by unfold Func.isWrapper; first | (rw [if_pos (by decide +kernel)]; kernel_rfl) | (rw [if_neg (by decide +kernel)]; exact ⟨rfl, rfl⟩))
    (fun os started H enc _ => lifted os started H enc)
/-- the statement -/
theorem proved : Rows.FnExactRoundFractionSaid := over
#print axioms proved
end Go.Proofs.Ytgcgbhecpgeheaa.fnExactRoundFraction
