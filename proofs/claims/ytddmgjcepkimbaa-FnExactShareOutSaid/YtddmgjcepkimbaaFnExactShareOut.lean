/-
  The law 'FnExactShareOut' holds for every input: the shares are the reference's. No condition.
  The frame follows the kit's template for such a statement; the walk is ours.
-/
import Derived.Test.YtddmgjcepkimbaaRows
import Derived.Test.YtddmgjcepkimbaaHelp
import Derived.Test.YtddmgjcepkimbaaShareI
import Derived.Test.YtddmgjcepkimbaaShareT
import Derived.Test.YtddmgjcepkimbaaOpen
import Derived.Lib.SmallJoins
namespace Go.Proofs.Ytddmgjcepkimbaa.fnExactShareOut
open Go.ChangeShapes Go.WideShapes Go.ChangeAt Go.RowKit Go.Joins
open Go.ChangeMaps (open_string shut_string)
set_option linter.unusedVariables false
set_option maxHeartbeats 2000000 in
theorem walk (y : Int) (A : Option Addr) (zs : List Int) (c : Nat) (w : World) (wy : (Lit.int .i64 y).wf = true) (rA : RC w A (ints zs)) (hl : zs.length ≤ 9223372036854775807) :
    Calls Try.prog 3 #[.int .i64 y, .slice A zs.length c] w fun e w' => e = .returned (.bool true) ∧ Below w.heap.size w w' := by
  clear wy
  by_cases hm : zs.length ≤ 1048576
  · have hL : (shR y zs).length ≤ 1048576 := sh_len y zs hm
    go_enter Try.func3, Try.ntmps3
    go_wp2_with fail
    refine (toInts _ _ _ _ rA hm).mono ?_
    rintro e w1 ⟨A1, c1, rfl, o1, b1⟩
    go_wp2_with fail
    refine (specShareOut w1 y A1 c1 zs o1.rc hm).mono ?_
    rintro e w2 ⟨S, cS, rfl, oS, b2⟩
    have B2 : Below w.heap.size w w2 := bl_trans b1 b2
    go_wp2_with fail
    refine (toInts _ _ _ _ (rA.below B2) hm).mono ?_
    rintro e w3 ⟨X, cX, rfl, oX, b3⟩
    have B3 : Below w.heap.size w w3 := bl_trans B2 b3
    go_wp2_with fail
    refine (implShareOut w3 y X cX zs oX.rc hm).mono ?_
    rintro e w4 ⟨G, cG, rfl, oG, b4⟩
    have B4 : Below w.heap.size w w4 := bl_trans B3 b4
    have oS4 := (oS.below b3).below (b4.mono b3.size)
    have oX4 := oX.below b4
    go_wp2_with fail
    refine (eqInts _ _ _ _ _ _ oG.rc oS4.rc hL).mono ?_
    rintro e w' ⟨rfl, d1, rfl⟩
    go_wp2_with fail
    refine (toInts _ _ _ _ ((rA.below B4).drewN _) hm).mono ?_
    rintro e w5 ⟨A5, c5, rfl, o5, b5'⟩
    have b5 : Below w4.heap.size w4 w5 := bl_undraw b5'
    have B5 : Below w.heap.size w w5 := bl_trans B4 b5
    have oS5 := oS4.below (b5.mono (Nat.le_trans b3.size b4.size))
    have oX5 := oX4.below (b5.mono b4.size)
    have oG5 := oG.below b5
    go_wp2_with fail
    refine (eqInts _ _ _ _ _ _ oX5.rc o5.rc hm).mono ?_
    rintro e w' ⟨rfl, d2, rfl⟩
    go_wp2_with fail
    refine (markInts _ _ _ _ _ _ _ _ (oX5.drewN d2) (ints_len _) hm (by omega) (by omega)).mono ?_
    rintro e w6 ⟨rfl, q6', m6⟩
    have q6 : Only zs.length X w5 w6 := only_undraw q6'
    have oS6 := oS5.only q6 oX5 (Nat.le_of_eq (ints_len _).symm) (.inl (Nat.le_refl _))
    have oG6 := oG5.only q6 oX5 (Nat.le_of_eq (ints_len _).symm) (.inr (Nat.le_refl _))
    have B6 : Below w.heap.size w w6 := B5.trans ((q6.below oX5 (Nat.le_of_eq (ints_len _).symm)).mono B2.size)
    go_wp2_with fail
    refine (eqInts _ _ _ _ _ _ oG6.rc oS6.rc hL).mono ?_
    rintro e w' ⟨rfl, d3, rfl⟩
    go_wp2_with fail
    refine (markInts _ _ _ _ _ _ _ _ (oG6.drewN d3) (ints_len _) hL (by omega) (by omega)).mono ?_
    rintro e w7 ⟨rfl, q7', m7⟩
    have q7 : Only (shR y zs).length G w6 w7 := only_undraw q7'
    have oS7 := oS6.only q7 oG6 (Nat.le_of_eq (ints_len _).symm) (.inl b3.size)
    have B7 : Below w.heap.size w w7 := B6.trans ((q7.below oG6 (Nat.le_of_eq (ints_len _).symm)).mono B3.size)
    have s7 : w4.heap.size ≤ w7.heap.size := by have h1 := q6.size; have h2 := q7.size; have h3 := b5.size; omega
    go_wp2_with fail
    refine (heldInts _ _ _ _ _ m7.rc hL (by omega) (by omega)).mono ?_
    rintro e w' ⟨rfl, rfl⟩
    go_wp2_with fail
    refine (toInts _ _ _ _ (rA.below B7) hm).mono ?_
    rintro e w8 ⟨A8, c8, rfl, o8, b8⟩
    go_wp2_with fail
    refine (implShareOut w8 y A8 c8 zs o8.rc hm).mono ?_
    rintro e w9 ⟨H, cH, rfl, oH, b9⟩
    have b89 : Below w7.heap.size w7 w9 := bl_trans b8 b9
    have B9 : Below w.heap.size w w9 := bl_trans B7 b89
    have oS9 := oS7.below (b89.mono (Nat.le_trans (Nat.le_trans b3.size b4.size) s7))
    have m9 := m7.below (b89.mono s7)
    go_wp2_with fail
    refine (eqInts _ _ _ _ _ _ oH.rc oS9.rc hL).mono ?_
    rintro e w' ⟨rfl, d4, rfl⟩
    go_wp2_with fail
    refine (heldInts _ _ _ _ _ (m9.drewN d4).rc hL (by omega) (by omega)).mono ?_
    rintro e w' ⟨rfl, rfl⟩
    go_wp2
    go_ret
    exact ⟨rfl, bl_drewN B9 _⟩
  · go_enter Try.func3, Try.ntmps3
    go_wp2_with fail
    go_ret
    exact ⟨rfl, Below.refl _ _⟩

theorem own : ownKnob Try.prog.godebug = none := by kernel_rfl
theorem laidOut : laidOutB Try.prog = true := by kernel_rfl
set_option maxRecDepth 100000 in
theorem lifted (os : Os) (started : os.Started) (H : Type) (enc : TypeId × Value → H) :
    ReturnsInHanded {} Try.checked os 3 .any (Rows.fnExactShareOutSpec.pre6 enc Try.prog Try.f3 Rows.fnExactShareOutRow.domain false) (Rows.fnExactShareOutSpec.post enc Try.prog Try.f3 false true false false) := by
  refine returnsInHanded_of_change (C := Try.checked) own started (by kernel_rfl) Try.func3
    (ChangeSpec.witness6 (enc := enc) (C := Try.checked) false ⟨#[], #[.int .i64 0, .slice none 0 0], []⟩ 8 (by kernel_rfl) (by kernel_rfl) (by kernel_rfl) (by kernel_rfl)) ?_
  intro W base args ds gs before hval0 hW hcnd _
  have hval : ∀ (j : Nat) t v, Try.f3.params[j]? = some t → args[j]? = some v → Value.okWide Try.prog W .any base t v := hval0
  have hW' := hW
  obtain ⟨p, q, hA0, hV, rfl, hfz, hnd⟩ := hW
  have hA : DataW.TrodAll enc Try.prog W 0 (fun _ => true) true Try.f3.params.toList args.toList ds p := hA0
  rw [Try.params3] at hA hval
  obtain ⟨v0, vs0, d0, ds0, p0, q0, hargs, rfl, rfl, h0, r0⟩ := trodAll_cons hA
  obtain ⟨v1, vs1, d1, ds1, p1, q1, rfl, rfl, rfl, h1, r1⟩ := trodAll_cons r0
  obtain ⟨rfl, rfl, rfl⟩ := trodAll_nil r1
  obtain rfl : args = #[v0, v1] := by cases args; simp_all
  obtain ⟨rfl, rfl⟩ := trodVars_none hV
  have k0 := h0
  have lt0 : ∀ x ∈ p0, x.block < W.heap.size := by obtain ⟨m, hm⟩ := k0; exact DataW.trod_lt m _ _ _ hm
  obtain ⟨y, rfl, _, _, wy⟩ := open_int Try.underlying2 (hval 0 2 v0 rfl rfl) h0
  have k1 := h1
  have lt1 : ∀ x ∈ p1, x.block < W.heap.size := by obtain ⟨m, hm⟩ := k1; exact DataW.trod_lt m _ _ _ hm
  obtain ⟨a1, l1, cc1, rfl⟩ := okWide_slice Try.underlying22 (hval 1 22 v1 rfl rfl)
  obtain ⟨fuel1, hf1⟩ := h1
  obtain ⟨Azs, zs, czs, hcs1, rzs, mzs⟩ := open_list Try.underlying22 Try.underlying2 (by kernel_rfl) hf1
  simp [Value.cells] at hcs1
  obtain ⟨rfl, rfl, rfl⟩ := hcs1
  refine (walk y a1 zs cc1 W wy rzs mzs).mono fun e W' ⟨he, bel⟩ => ?_
  subst he
  exact ⟨_, rfl, _, _, _, [], _, [], hW', trodAll_mk1 (shut_bool Try.underlying4 _), (trodAll_cons_mk (Below.trod laidOut (by kernel_rfl) (of_decide_eq_true (by kernel_rfl)) k0 bel lt0) (trodAll_cons_mk (Below.trod laidOut (by kernel_rfl) (of_decide_eq_true (by kernel_rfl)) k1 bel lt1) trodAll_mk0)), rfl, bel.frame _, fun h => by cases h⟩
theorem over : Rows.fnExactShareOutRow.holds Try.pinned (OpenSpec.ofChange Rows.fnExactShareOutSpec) :=
  OpenClaim.holds_of_wide 3 Try.f3 rfl rfl rfl rfl rfl rfl rfl ⟨rfl, rfl, rfl, rfl, rfl⟩ rfl rfl rfl rfl rfl (by kernel_rfl) Try.func3 (by kernel_rfl)
    (of_decide_eq_true (by kernel_rfl)) (by unfold Func.isWrapper; first | (rw [if_pos (by decide +kernel)]; kernel_rfl) | (rw [if_neg (by decide +kernel)]; exact ⟨rfl, rfl⟩))
    (fun os started H enc _ => lifted os started H enc)
/-- the statement -/
theorem proved : Rows.FnExactShareOutSaid := over
#print axioms proved
end Go.Proofs.Ytddmgjcepkimbaa.fnExactShareOut
