/-
  The law 'FnExactLongestDry' holds for every input: the greatest number of days of a dry spell is the reference's. No condition.
  The frame follows the kit's template for such a statement; the walk is ours.
-/
import Derived.Test.YtcgnnlgakfndaaaRows
import Derived.Test.YtcgnnlgakfndaaaOnly
import Derived.Test.YtcgnnlgakfndaaaDry
import Derived.Test.YtcgnnlgakfndaaaOpen
import Derived.Lib.SmallJoins
import Derived.Deep.RegionHeld3
namespace Go.Proofs.Ytcgnnlgakfndaaa.fnExactLongestDry
open Go.ChangeShapes Go.WideShapes Go.ChangeAt Go.RowKit Go.Joins
open Go.ChangeMaps (open_string shut_string)
set_option linter.unusedVariables false
set_option maxHeartbeats 4000000 in
theorem walk (Azs : Option Addr) (zs : List Int) (czs : Nat) (w : World) (rzs : RC w Azs (ints zs)) (mzs : zs.length ≤ 9223372036854775807) :
    Calls Try.prog 3 #[.slice Azs (List.length zs) czs] w fun e w' => e = .returned (.bool true) ∧ Below w.heap.size w w' := by
  skip
  by_cases hmzs : zs.length ≤ 1048576
  rotate_left
  · go_enter Try.func3, Try.ntmps3
    go_wp2_with fail
    go_ret
    exact ⟨rfl, by repeat (first | exact Below.refl _ _ | assumption | apply bl_alloc | apply bl_drewN | apply Below.drew | (refine bl_set ?_ (by first | exact Nat.le_refl _ | (simp; done) | (simp; omega)) _) | (refine bl_trans ?_ (by assumption)))⟩
  go_enter Try.func3, Try.ntmps3
  go_wp2_with fail
  refine (toInts _ _ _ _ (rzs.below (by repeat (first | exact Below.refl _ _ | assumption | apply bl_alloc | apply bl_drewN | apply Below.drew | (refine bl_set ?_ (by first | exact Nat.le_refl _ | (simp; done) | (simp; omega)) _) | (refine bl_trans ?_ (by assumption))))) hmzs).mono ?_
  rintro e w1 ⟨X1, c1, rfl, o1, b1⟩
  have s1 : Below w.heap.size w w1 := (by repeat (first | exact Below.refl _ _ | assumption | apply bl_alloc | apply bl_drewN | apply Below.drew | (refine bl_set ?_ (by first | exact Nat.le_refl _ | (simp; done) | (simp; omega)) _) | (refine bl_trans ?_ (by assumption))))
  have z1 := s1.size
  have t1 : Below w.heap.size w w1 := s1
  replace o1 := o1.wide (B' := w.heap.size) (E' := w1.heap.size) (Below.size (B := w.heap.size) (by repeat (first | exact Below.refl _ _ | assumption | apply bl_alloc | apply bl_drewN | apply Below.drew | (refine bl_set ?_ (by first | exact Nat.le_refl _ | (simp; done) | (simp; omega)) _) | (refine bl_trans ?_ (by assumption))))) (Nat.le_refl _)
  go_wp2_with fail
  refine (specDry _ _ _ zs ((o1.below (Below.mono (B := w1.heap.size) (by repeat (first | exact Below.refl _ _ | assumption | apply bl_alloc | apply bl_drewN | apply Below.drew | (refine bl_set ?_ (by first | exact Nat.le_refl _ | (simp; done) | (simp; omega)) _) | (refine bl_trans ?_ (by assumption)))) (by omega))).rc) hmzs).mono ?_
  rintro e w2 ⟨rfl, b2⟩
  have s2 : Below w1.heap.size w1 w2 := (by repeat (first | exact Below.refl _ _ | assumption | apply bl_alloc | apply bl_drewN | apply Below.drew | (refine bl_set ?_ (by first | exact Nat.le_refl _ | (simp; done) | (simp; omega)) _) | (refine bl_trans ?_ (by assumption))))
  have z2 := s2.size
  have t2 : Below w.heap.size w w2 := t1.trans (s2.mono (by omega))
  replace o1 := o1.below (s2.mono (by omega))
  clear o1
  go_wp2_with fail
  refine (toInts _ _ _ _ (rzs.below (by repeat (first | exact Below.refl _ _ | assumption | apply bl_alloc | apply bl_drewN | apply Below.drew | (refine bl_set ?_ (by first | exact Nat.le_refl _ | (simp; done) | (simp; omega)) _) | (refine bl_trans ?_ (by assumption))))) hmzs).mono ?_
  rintro e w3 ⟨X3, c3, rfl, o3, b3⟩
  have s3 : Below w2.heap.size w2 w3 := (by repeat (first | exact Below.refl _ _ | assumption | apply bl_alloc | apply bl_drewN | apply Below.drew | (refine bl_set ?_ (by first | exact Nat.le_refl _ | (simp; done) | (simp; omega)) _) | (refine bl_trans ?_ (by assumption))))
  have z3 := s3.size
  have t3 : Below w.heap.size w w3 := t2.trans (s3.mono (by omega))
  replace o3 := o3.wide (B' := w2.heap.size) (E' := w3.heap.size) (Below.size (B := w2.heap.size) (by repeat (first | exact Below.refl _ _ | assumption | apply bl_alloc | apply bl_drewN | apply Below.drew | (refine bl_set ?_ (by first | exact Nat.le_refl _ | (simp; done) | (simp; omega)) _) | (refine bl_trans ?_ (by assumption))))) (Nat.le_refl _)
  go_wp2_with fail
  refine (implDry _ _ _ zs ((o3.below (Below.mono (B := w3.heap.size) (by repeat (first | exact Below.refl _ _ | assumption | apply bl_alloc | apply bl_drewN | apply Below.drew | (refine bl_set ?_ (by first | exact Nat.le_refl _ | (simp; done) | (simp; omega)) _) | (refine bl_trans ?_ (by assumption)))) (by omega))).rc) hmzs).mono ?_
  rintro e w4 ⟨rfl, b4⟩
  have s4 : Below w3.heap.size w3 w4 := (by repeat (first | exact Below.refl _ _ | assumption | apply bl_alloc | apply bl_drewN | apply Below.drew | (refine bl_set ?_ (by first | exact Nat.le_refl _ | (simp; done) | (simp; omega)) _) | (refine bl_trans ?_ (by assumption))))
  have z4 := s4.size
  have t4 : Below w.heap.size w w4 := t3.trans (s4.mono (by omega))
  replace o3 := o3.below (s4.mono (by omega))
  go_wp2_with fail
  refine (toInts _ _ _ _ (rzs.below (by repeat (first | exact Below.refl _ _ | assumption | apply bl_alloc | apply bl_drewN | apply Below.drew | (refine bl_set ?_ (by first | exact Nat.le_refl _ | (simp; done) | (simp; omega)) _) | (refine bl_trans ?_ (by assumption))))) hmzs).mono ?_
  rintro e w5 ⟨X5, c5, rfl, o5, b5⟩
  have s5 : Below w4.heap.size w4 w5 := (by repeat (first | exact Below.refl _ _ | assumption | apply bl_alloc | apply bl_drewN | apply Below.drew | (refine bl_set ?_ (by first | exact Nat.le_refl _ | (simp; done) | (simp; omega)) _) | (refine bl_trans ?_ (by assumption))))
  have z5 := s5.size
  have t5 : Below w.heap.size w w5 := t4.trans (s5.mono (by omega))
  replace o3 := o3.below (s5.mono (by omega))
  replace o5 := o5.wide (B' := w4.heap.size) (E' := w5.heap.size) (Below.size (B := w4.heap.size) (by repeat (first | exact Below.refl _ _ | assumption | apply bl_alloc | apply bl_drewN | apply Below.drew | (refine bl_set ?_ (by first | exact Nat.le_refl _ | (simp; done) | (simp; omega)) _) | (refine bl_trans ?_ (by assumption))))) (Nat.le_refl _)
  go_wp2_with fail
  refine (eqInts _ _ _ _ _ _ ((o3.below (Below.mono (B := w5.heap.size) (by repeat (first | exact Below.refl _ _ | assumption | apply bl_alloc | apply bl_drewN | apply Below.drew | (refine bl_set ?_ (by first | exact Nat.le_refl _ | (simp; done) | (simp; omega)) _) | (refine bl_trans ?_ (by assumption)))) (by omega))).rc) ((o5.below (Below.mono (B := w5.heap.size) (by repeat (first | exact Below.refl _ _ | assumption | apply bl_alloc | apply bl_drewN | apply Below.drew | (refine bl_set ?_ (by first | exact Nat.le_refl _ | (simp; done) | (simp; omega)) _) | (refine bl_trans ?_ (by assumption)))) (by omega))).rc) hmzs).mono ?_
  rintro e w' ⟨rfl, dd5_40, rfl⟩
  clear o5
  go_wp2
  go_ret
  exact ⟨rfl, by repeat (first | exact Below.refl _ _ | assumption | apply bl_alloc | apply bl_drewN | apply Below.drew | (refine bl_set ?_ (by first | exact Nat.le_refl _ | (simp; done) | (simp; omega)) _) | (refine bl_trans ?_ (by assumption)))⟩

theorem own : ownKnob Try.prog.godebug = none := by kernel_rfl
theorem laidOut : laidOutB Try.prog = true := by kernel_rfl
set_option maxRecDepth 100000 in
theorem lifted (os : Os) (started : os.Started) (H : Type) (enc : TypeId × Value → H) :
    ReturnsInHanded {} Try.checked os 3 .any (Rows.fnExactLongestDrySpec.pre6 enc Try.prog Try.f3 Rows.fnExactLongestDryRow.domain false) (Rows.fnExactLongestDrySpec.post enc Try.prog Try.f3 false true false false) := by
  refine returnsInHanded_of_change (C := Try.checked) own started (by kernel_rfl) Try.func3
    (ChangeSpec.witness6 (enc := enc) (C := Try.checked) false ⟨#[], #[.slice none 0 0], []⟩ 8 (by kernel_rfl) (by kernel_rfl) (by kernel_rfl) (by kernel_rfl)) ?_
  intro W base args ds gs before hval0 hW hcnd _
  have hval : ∀ (j : Nat) t v, Try.f3.params[j]? = some t → args[j]? = some v → Value.okWide Try.prog W .any base t v := hval0
  have hW' := hW
  obtain ⟨p, q, hA0, hV, rfl, hfz, hnd⟩ := hW
  have hA : DataW.TrodAll enc Try.prog W 0 (fun _ => true) true Try.f3.params.toList args.toList ds p := hA0
  rw [Try.params3] at hA hval
  obtain ⟨v0, vs0, d0, ds0, p0, q0, hargs, rfl, rfl, h0, r0⟩ := trodAll_cons hA
  obtain ⟨rfl, rfl, rfl⟩ := trodAll_nil r0
  obtain rfl : args = #[v0] := by cases args; simp_all
  obtain ⟨rfl, rfl⟩ := trodVars_none hV
  have k0 := h0
  have lt0 : ∀ x ∈ p0, x.block < W.heap.size := by obtain ⟨m, hm⟩ := k0; exact DataW.trod_lt m _ _ _ hm
  obtain ⟨a0, l0, cc0, rfl⟩ := okWide_slice Try.underlying22 (hval 0 22 v0 rfl rfl)
  obtain ⟨fuel0, hf0⟩ := h0
  obtain ⟨Azs, zs, czs, hcs0, rzs, mzs⟩ := open_list Try.underlying22 Try.underlying2 (by kernel_rfl) hf0
  simp [Value.cells] at hcs0
  obtain ⟨rfl, rfl, rfl⟩ := hcs0
  refine (walk a0 zs cc0 W rzs mzs).mono fun e W' ⟨he, bel⟩ => ?_
  subst he
  exact ⟨_, rfl, _, _, _, [], _, [], hW', trodAll_mk1 (shut_bool Try.underlying4 _), (trodAll_cons_mk (Below.trod laidOut (by kernel_rfl) (of_decide_eq_true (by kernel_rfl)) k0 bel lt0) trodAll_mk0), rfl, bel.frame _, fun h => by cases h⟩
theorem over : Rows.fnExactLongestDryRow.holds Try.pinned (OpenSpec.ofChange Rows.fnExactLongestDrySpec) :=
  OpenClaim.holds_of_wide 3 Try.f3 rfl rfl rfl rfl rfl rfl rfl ⟨rfl, rfl, rfl, rfl, rfl⟩ rfl rfl rfl rfl rfl (by kernel_rfl) Try.func3 (by kernel_rfl)
    (of_decide_eq_true (by kernel_rfl)) (by unfold Func.isWrapper; first | (rw [if_pos (by decide +kernel)]; kernel_rfl) | (rw [if_neg (by decide +kernel)]; exact ⟨rfl, rfl⟩))
    (fun os started H enc _ => lifted os started H enc)
/-- the statement -/
theorem proved : Rows.FnExactLongestDrySaid := over
#print axioms proved
end Go.Proofs.Ytcgnnlgakfndaaa.fnExactLongestDry
