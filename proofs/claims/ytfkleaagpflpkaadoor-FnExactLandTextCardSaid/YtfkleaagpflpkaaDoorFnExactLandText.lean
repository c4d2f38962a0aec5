/-
  The law 'FnExactLandText' holds for every input: the text of a land is the reference's. No condition.
  The frame follows the kit's template for such a statement; the walk is ours.
-/
import Derived.Test.YtfkleaagpflpkaaDoorRows
import Derived.Test.YtfkleaagpflpkaaDoorOnly
import Derived.Test.YtfkleaagpflpkaaDoorLtSpec
import Derived.Test.YtfkleaagpflpkaaDoorLtCap
import Derived.Test.YtfkleaagpflpkaaDoorOpen
import Derived.Test.YtfkleaagpflpkaaDoorCards
import Derived.Test.YtfkleaagpflpkaaDoorTie
import Derived.Lib.SmallJoins
import Derived.LaidMore
import Derived.Lib.LaidTab
import Derived.ProofKit
import Derived.OpenShut
import Derived.Stop.Joined
import Derived.Stop.LaidErr
import Derived.SevenTiedAt
import Derived.Deep.RegionHeld3
namespace Go.Proofs.YtfkleaagpflpkaaDoor.fnExactLandText
open Go.ChangeShapes Go.WideShapes Go.ChangeAt Go.RowKit Go.Joins
open Go.ChangeMaps (open_string shut_string)
set_option linter.unusedVariables false
set_option maxRecDepth 100000 in
set_option maxHeartbeats 4000000 in
theorem walk (r : Int) (c : Int) (Ahs : Option Addr) (hs : List Int) (chs : Nat) (w : World) (wr : (Lit.int .i64 r).wf = true) (wc : (Lit.int .i64 c).wf = true) (rhs : RC w Ahs (ints hs)) (mhs : hs.length ≤ 9223372036854775807) (hpow : Lib.TabIs Tryd.prog w "internal/strconv.uint64pow10" .u64 Lib.pow10Tab) :
    Calls Tryd.prog 8 #[.agg #[.int .i64 r, .int .i64 c, .slice Ahs (List.length hs) chs]] w fun e w' => e = .returned (.bool true) ∧ Below w.heap.size w w' := by
  clear wr wc
  have HT := Lib.hid (Lib.tabBelow_of_tabIs hpow)
  clear hpow
  by_cases hz0 : hs.length ≤ 1048576
  rotate_left
  · go_enter Tryd.func8, Tryd.ntmps8
    go_wp2_with fail
    refine (szLand_no _ _ _ _ _ _ _ (by omega) (by omega) (by omega) mhs).mono ?_
    rintro e w1 ⟨rfl, b1⟩
    go_wp2
    go_ret
    exact ⟨rfl, by repeat (first | exact Below.refl _ _ | assumption | apply bl_alloc | apply bl_drewN | apply Below.drew | (refine bl_set ?_ (by first | exact Nat.le_refl _ | (simp; done) | (simp; omega)) _) | (refine bl_trans ?_ (by assumption)))⟩
  have hmhs : (List.length hs) ≤ 1048576 := by omega
  go_enter Tryd.func8, Tryd.ntmps8
  go_wp2_with fail
  refine (szLand_yes _ _ _ _ _ _ _ (by omega) (by omega)).mono ?_
  rintro e w1 ⟨rfl, b1⟩
  have s1 : Below w.heap.size w w1 := (by repeat (first | exact Below.refl _ _ | assumption | apply bl_alloc | apply bl_drewN | apply Below.drew | (refine bl_set ?_ (by first | exact Nat.le_refl _ | (simp; done) | (simp; omega)) _) | (refine bl_trans ?_ (by assumption))))
  have z1 := s1.size
  have t1 : Below w.heap.size w w1 := s1
  have kp : w1.heap[w.heap.size]? = some (.cells #[.int .i64 r, .int .i64 c, .slice Ahs (List.length hs) chs] 50 (0, 0)) := keep_blk (hb := b1) (h := by repeat (first | (refine blk_new ?_; (first | rfl | (simp; done) | (simp; omega))) | refine blk_drewN ?_ | refine blk_drew ?_ | refine blk_old ?_))
  have vkp := blk_lt kp
  obtain ⟨kp0, kp1, kp2, kpl⟩ := row_three kp
  go_wp2_with fail
  refine (toLand_any _ _ _ _ _ _ (rhs.below (by repeat (first | exact Below.refl _ _ | assumption | apply bl_alloc | apply bl_drewN | apply Below.drew | (refine bl_set ?_ (by first | exact Nat.le_refl _ | (simp; done) | (simp; omega)) _) | (refine bl_trans ?_ (by assumption))))) hmhs).mono ?_
  rintro e w2 ⟨X2, c2, rfl, o2, b2⟩
  have s2 : Below w1.heap.size w1 w2 := (by repeat (first | exact Below.refl _ _ | assumption | apply bl_alloc | apply bl_drewN | apply Below.drew | (refine bl_set ?_ (by first | exact Nat.le_refl _ | (simp; done) | (simp; omega)) _) | (refine bl_trans ?_ (by assumption))))
  have z2 := s2.size
  have t2 : Below w.heap.size w w2 := t1.trans (s2.mono (by omega))
  replace kp : w2.heap[w.heap.size]? = some (.cells #[.int .i64 r, .int .i64 c, .slice Ahs (List.length hs) chs] 50 (0, 0)) := keep_blk (hb := s2) (h := kp)
  clear kp0 kp1 kp2 kpl
  obtain ⟨kp0, kp1, kp2, kpl⟩ := row_three kp
  replace o2 := o2.wide (B' := w1.heap.size) (E' := w2.heap.size) (Below.size (B := w1.heap.size) (by repeat (first | exact Below.refl _ _ | assumption | apply bl_alloc | apply bl_drewN | apply Below.drew | (refine bl_set ?_ (by first | exact Nat.le_refl _ | (simp; done) | (simp; omega)) _) | (refine bl_trans ?_ (by assumption))))) (Nat.le_refl _)
  go_wp2_with fail
  refine (specLandText _ r c _ _ hs ((o2.below (Below.mono (B := w2.heap.size) (by repeat (first | exact Below.refl _ _ | assumption | apply bl_alloc | apply bl_drewN | apply Below.drew | (refine bl_set ?_ (by first | exact Nat.le_refl _ | (simp; done) | (simp; omega)) _) | (refine bl_trans ?_ (by assumption)))) (by omega))).rc) hmhs).mono ?_
  rintro e w3 ⟨rfl, b3⟩
  have s3 : Below w2.heap.size w2 w3 := (by repeat (first | exact Below.refl _ _ | assumption | apply bl_alloc | apply bl_drewN | apply Below.drew | (refine bl_set ?_ (by first | exact Nat.le_refl _ | (simp; done) | (simp; omega)) _) | (refine bl_trans ?_ (by assumption))))
  have z3 := s3.size
  have t3 : Below w.heap.size w w3 := t2.trans (s3.mono (by omega))
  replace o2 := o2.below (s3.mono (by omega))
  replace kp : w3.heap[w.heap.size]? = some (.cells #[.int .i64 r, .int .i64 c, .slice Ahs (List.length hs) chs] 50 (0, 0)) := keep_blk (hb := s3) (h := kp)
  clear kp0 kp1 kp2 kpl
  obtain ⟨kp0, kp1, kp2, kpl⟩ := row_three kp
  clear o2
  go_wp2_with fail
  refine (toLand_cap _ _ _ _ _ _ (rhs.below (by repeat (first | exact Below.refl _ _ | assumption | apply bl_alloc | apply bl_drewN | apply Below.drew | (refine bl_set ?_ (by first | exact Nat.le_refl _ | (simp; done) | (simp; omega)) _) | (refine bl_trans ?_ (by assumption))))) hmhs).mono ?_
  rintro e w4 ⟨X4, c4, rfl, hc4, o4, b4⟩
  have s4 : Below w3.heap.size w3 w4 := (by repeat (first | exact Below.refl _ _ | assumption | apply bl_alloc | apply bl_drewN | apply Below.drew | (refine bl_set ?_ (by first | exact Nat.le_refl _ | (simp; done) | (simp; omega)) _) | (refine bl_trans ?_ (by assumption))))
  have z4 := s4.size
  have t4 : Below w.heap.size w w4 := t3.trans (s4.mono (by omega))
  replace kp : w4.heap[w.heap.size]? = some (.cells #[.int .i64 r, .int .i64 c, .slice Ahs (List.length hs) chs] 50 (0, 0)) := keep_blk (hb := s4) (h := kp)
  clear kp0 kp1 kp2 kpl
  obtain ⟨kp0, kp1, kp2, kpl⟩ := row_three kp
  replace o4 := o4.wide (B' := w3.heap.size) (E' := w4.heap.size) (Below.size (B := w3.heap.size) (by repeat (first | exact Below.refl _ _ | assumption | apply bl_alloc | apply bl_drewN | apply Below.drew | (refine bl_set ?_ (by first | exact Nat.le_refl _ | (simp; done) | (simp; omega)) _) | (refine bl_trans ?_ (by assumption))))) (Nat.le_refl _)
  go_wp2_with fail
  refine (implLandText _ r c _ _ hs w.heap.size (Below.size (B := w.heap.size) (by repeat (first | exact Below.refl _ _ | assumption | apply bl_alloc | apply bl_drewN | apply Below.drew | (refine bl_set ?_ (by first | exact Nat.le_refl _ | (simp; done) | (simp; omega)) _) | (refine bl_trans ?_ (by assumption))))) (HT.out.on (by repeat (first | exact Below.refl _ _ | assumption | apply bl_alloc | apply bl_drewN | apply Below.drew | (refine bl_set ?_ (by first | exact Nat.le_refl _ | (simp; done) | (simp; omega)) _) | (refine bl_trans ?_ (by assumption))))) ((o4.below (Below.mono (B := w4.heap.size) (by repeat (first | exact Below.refl _ _ | assumption | apply bl_alloc | apply bl_drewN | apply Below.drew | (refine bl_set ?_ (by first | exact Nat.le_refl _ | (simp; done) | (simp; omega)) _) | (refine bl_trans ?_ (by assumption)))) (by omega))).rc) hmhs hc4).mono ?_
  rintro e w5 ⟨rfl, b5⟩
  have s5 : Below w4.heap.size w4 w5 := (by repeat (first | exact Below.refl _ _ | assumption | apply bl_alloc | apply bl_drewN | apply Below.drew | (refine bl_set ?_ (by first | exact Nat.le_refl _ | (simp; done) | (simp; omega)) _) | (refine bl_trans ?_ (by assumption))))
  have z5 := s5.size
  have t5 : Below w.heap.size w w5 := t4.trans (s5.mono (by omega))
  replace o4 := o4.below (s5.mono (by omega))
  replace kp : w5.heap[w.heap.size]? = some (.cells #[.int .i64 r, .int .i64 c, .slice Ahs (List.length hs) chs] 50 (0, 0)) := keep_blk (hb := s5) (h := kp)
  clear kp0 kp1 kp2 kpl
  obtain ⟨kp0, kp1, kp2, kpl⟩ := row_three kp
  have kx : w5.heap[w4.heap.size]? = some (.cells #[.int .i64 r, .int .i64 c, .slice X4 (List.length hs) c4] 53 (0, 0)) := keep_blk (hb := b5) (h := by repeat (first | (refine blk_new ?_; (first | rfl | (simp; done) | (simp; omega))) | refine blk_drewN ?_ | refine blk_drew ?_ | refine blk_old ?_))
  have vkx := blk_lt kx
  obtain ⟨kx0, kx1, kx2, kxl⟩ := row_three kx
  go_wp2_with fail
  go_region_held3 (fun w' => w'.cell? ⟨w4.heap.size, 0, none⟩ = some (.int .i64 r) ∧ w'.cell? ⟨w4.heap.size, 1, none⟩ = some (.int .i64 c) ∧ w'.cell? ⟨w4.heap.size, 2, none⟩ = some (.slice X4 (List.length hs) c4) ∧ w'.cell? ⟨w.heap.size, 0, none⟩ = some (.int .i64 r) ∧ w'.cell? ⟨w.heap.size, 1, none⟩ = some (.int .i64 c) ∧ w'.cell? ⟨w.heap.size, 2, none⟩ = some (.slice Ahs (List.length hs) chs)) (((try dsimp only); refine ⟨?_, ?_, ?_, ?_, ?_, ?_⟩ <;> (repeat (first | with_reducible assumption | with_reducible refine kc_drew ?_ | with_reducible refine kc_drewN ?_ | with_reducible refine kc_alloc ?_ | with_reducible refine kc_set ?_ (by first | omega | (simp; done) | (simp; omega)))))) (first | (go_at_call 31; refine (toLand_any _ _ _ _ _ _ (rhs.below (by repeat (first | exact Below.refl _ _ | assumption | apply bl_alloc | apply bl_drewN | apply Below.drew | (refine bl_set ?_ (by first | exact Nat.le_refl _ | (simp; done) | (simp; omega)) _) | (refine bl_trans ?_ (by assumption))))) hmhs).mono ?_; rintro e w6 ⟨X6, c6, rfl, o6, b6⟩; have s6 : Below w5.heap.size w5 w6 := (by repeat (first | exact Below.refl _ _ | assumption | apply bl_alloc | apply bl_drewN | apply Below.drew | (refine bl_set ?_ (by first | exact Nat.le_refl _ | (simp; done) | (simp; omega)) _) | (refine bl_trans ?_ (by assumption)))); have z6 := s6.size; have t6 : Below w.heap.size w w6 := t5.trans (s6.mono (by omega)); replace o4 := o4.below (s6.mono (by omega)); replace kp : w6.heap[w.heap.size]? = some (.cells #[.int .i64 r, .int .i64 c, .slice Ahs (List.length hs) chs] 50 (0, 0)) := keep_blk (hb := s6) (h := kp); clear kp0 kp1 kp2 kpl; obtain ⟨kp0, kp1, kp2, kpl⟩ := row_three kp; replace kx : w6.heap[w4.heap.size]? = some (.cells #[.int .i64 r, .int .i64 c, .slice X4 (List.length hs) c4] 53 (0, 0)) := keep_blk (hb := s6) (h := kx); clear kx0 kx1 kx2 kxl; obtain ⟨kx0, kx1, kx2, kxl⟩ := row_three kx; replace o6 := o6.wide (B' := w5.heap.size) (E' := w6.heap.size) (Below.size (B := w5.heap.size) (by repeat (first | exact Below.refl _ _ | assumption | apply bl_alloc | apply bl_drewN | apply Below.drew | (refine bl_set ?_ (by first | exact Nat.le_refl _ | (simp; done) | (simp; omega)) _) | (refine bl_trans ?_ (by assumption))))) (Nat.le_refl _)) | (go_at_call 33; refine (eqLand_any _ _ _ _ _ _ _ _ ((o4.below (Below.mono (B := w6.heap.size) (by repeat (first | exact Below.refl _ _ | assumption | apply bl_alloc | apply bl_drewN | apply Below.drew | (refine bl_set ?_ (by first | exact Nat.le_refl _ | (simp; done) | (simp; omega)) _) | (refine bl_trans ?_ (by assumption)))) (by omega))).rc) ((o6.below (Below.mono (B := w6.heap.size) (by repeat (first | exact Below.refl _ _ | assumption | apply bl_alloc | apply bl_drewN | apply Below.drew | (refine bl_set ?_ (by first | exact Nat.le_refl _ | (simp; done) | (simp; omega)) _) | (refine bl_trans ?_ (by assumption)))) (by omega))).rc) hmhs).mono ?_; rintro e w7 ⟨rfl, b7⟩; have s7 : Below w6.heap.size w6 w7 := (by repeat (first | exact Below.refl _ _ | assumption | apply bl_alloc | apply bl_drewN | apply Below.drew | (refine bl_set ?_ (by first | exact Nat.le_refl _ | (simp; done) | (simp; omega)) _) | (refine bl_trans ?_ (by assumption)))); have z7 := s7.size; have t7 : Below w.heap.size w w7 := t6.trans (s7.mono (by omega)); replace o4 := o4.below (s7.mono (by omega)); replace o6 := o6.below (s7.mono (by omega)); replace kp : w7.heap[w.heap.size]? = some (.cells #[.int .i64 r, .int .i64 c, .slice Ahs (List.length hs) chs] 50 (0, 0)) := keep_blk (hb := s7) (h := kp); clear kp0 kp1 kp2 kpl; obtain ⟨kp0, kp1, kp2, kpl⟩ := row_three kp; replace kx : w7.heap[w4.heap.size]? = some (.cells #[.int .i64 r, .int .i64 c, .slice X4 (List.length hs) c4] 53 (0, 0)) := keep_blk (hb := s7) (h := kx); clear kx0 kx1 kx2 kxl; obtain ⟨kx0, kx1, kx2, kxl⟩ := row_three kx))
  clear o6
  go_wp2
  go_ret
  exact ⟨rfl, by repeat (first | exact Below.refl _ _ | assumption | apply bl_alloc | apply bl_drewN | apply Below.drew | (refine bl_set ?_ (by first | exact Nat.le_refl _ | (simp; done) | (simp; omega)) _) | (refine bl_trans ?_ (by assumption)))⟩

theorem own : ownKnob Tryd.prog.godebug = none := by kernel_rfl
theorem laidOut : laidOutB Tryd.prog = true := by kernel_rfl
set_option maxRecDepth 100000 in
theorem door_met (os : Os) (args : Array Value) : laidMetH Tryd.prog Rows.fnExactLandTextRow.laid ((World.doorLaid Tryd.prog 100 os).forCall (fun _ _ => 0) ⟨#[], args, []⟩).memory :=
  laidMetH_of_parts3 (fuel := 8) (laidMet_of_run' 8 (by kernel_rfl) (by kernel_rfl)) (by kernel_rfl) (by kernel_rfl)
set_option maxRecDepth 100000 in
theorem lifted (os : Os) (started : os.Started) (H : Type) (enc : TypeId × Value → H) :
    ReturnsInHanded {} Tryd.checked os 8 .any (fun w args => (Rows.fnExactLandTextSpec.pre enc Tryd.prog Tryd.f8 [] false w args ∧ laidMetH Tryd.prog Rows.fnExactLandTextRow.laid w) ∧ sizedMet enc Tryd.prog Tryd.f8 (OpenSpec.ofChange Rows.fnExactLandTextSpec) false w args)
      (Rows.fnExactLandTextSpec.post enc Tryd.prog Tryd.f8 false true false false) := by
  refine returnsInHanded_of_change_and (C := Tryd.checked) (X := fun w _ => laidMetH Tryd.prog Rows.fnExactLandTextRow.laid w) (fun _ _ _ hh h => h.of_heap hh) own started (by kernel_rfl) Tryd.func8
    (ChangeSpec.witness_shaped (enc := enc) (C := Tryd.checked) (os := os) (X := fun w _ => laidMetH Tryd.prog Rows.fnExactLandTextRow.laid w) false (World.doorLaid Tryd.prog 100 os) #[.agg #[.int .i64 0, .int .i64 0, .slice none 0 0]] 8 rfl (World.shaped_of_RefB (by kernel_rfl) (by kernel_rfl)) (by kernel_rfl) (by kernel_rfl) (by kernel_rfl) (door_met os _)) ?_
  intro W base args ds gs before hval0 hW _ _ hL _
  rw [MakeChecks.laidMetH_plain _ _ _ (by kernel_rfl)] at hL
  have hval : ∀ (j : Nat) t v, Tryd.f8.params[j]? = some t → args[j]? = some v → Value.okWide Tryd.prog W .any base t v := hval0
  have hW' := hW
  obtain ⟨p, q, hA0, hV, rfl, hfz, hnd⟩ := hW
  have hA : DataW.TrodAll enc Tryd.prog W 0 (fun _ => true) true Tryd.f8.params.toList args.toList ds p := hA0
  rw [Tryd.params8] at hA hval
  obtain ⟨v0, vs0, d0, ds0, p0, q0, hargs, rfl, rfl, h0, r0⟩ := trodAll_cons hA
  obtain ⟨rfl, rfl, rfl⟩ := trodAll_nil r0
  obtain rfl : args = #[v0] := by cases args; simp_all
  obtain ⟨rfl, rfl⟩ := trodVars_none hV
  have k0 := h0
  have lt0 : ∀ x ∈ p0, x.block < W.heap.size := by obtain ⟨m, hm⟩ := k0; exact DataW.trod_lt m _ _ _ hm
  obtain ⟨e0_0, e0_1, e0_2, y0_0, y0_1, y0_2, fu0, rfl, _, _, hy0_0, hy0_1, hy0_2⟩ := open_agg3 Tryd.underlying50 (by kernel_rfl) (by kernel_rfl) (hval 0 50 v0 rfl rfl) h0
  obtain ⟨r, hc0_0, _, wr⟩ := DataW.trod_int Tryd.underlying2 hy0_0
  simp only [List.cons.injEq, and_true] at hc0_0
  subst hc0_0
  obtain ⟨c, hc0_1, _, wc⟩ := DataW.trod_int Tryd.underlying2 hy0_1
  simp only [List.cons.injEq, and_true] at hc0_1
  subst hc0_1
  obtain ⟨Ahs, hs, chs, hc0_2, rhs, mhs⟩ := open_list Tryd.underlying29 Tryd.underlying2 (by kernel_rfl) hy0_2
  simp only [List.cons.injEq, and_true] at hc0_2
  subst hc0_2
  have hpow := Lib.tabIs_of_head (name := "internal/strconv.uint64pow10") (k := .u64) (zs := Lib.pow10Tab) (show Tryd.prog.globalNamed "internal/strconv.uint64pow10" = some 0 by kernel_rfl) (by kernel_rfl) Tryd.underlying135 Tryd.underlying114 (by kernel_rfl) (by kernel_rfl) (laidMet.tail (laidMet.tail hL))
  refine (walk r c Ahs hs chs W wr wc rhs mhs hpow).mono fun e W' ⟨he, bel⟩ => ?_
  subst he
  exact ⟨_, rfl, _, _, _, [], _, [], hW', trodAll_mk1 (shut_bool Tryd.underlying4 _), (trodAll_cons_mk (Below.trod laidOut (by kernel_rfl) (of_decide_eq_true (by kernel_rfl)) k0 bel lt0) trodAll_mk0), rfl, bel.frame _, fun h => by cases h⟩
theorem over : Rows.fnExactLandTextRow.holds Tryd.pinned (OpenSpec.ofChange Rows.fnExactLandTextSpec) :=
  OpenClaim.holds_of_wide 8 Tryd.f8 rfl rfl rfl rfl rfl rfl rfl ⟨rfl, rfl, rfl, rfl, rfl⟩ rfl rfl rfl rfl rfl (by kernel_rfl) Tryd.func8 (by kernel_rfl)
    (of_decide_eq_true (by kernel_rfl)) (by unfold Func.isWrapper; first | (rw [if_pos (by decide +kernel)]; kernel_rfl) | (rw [if_neg (by decide +kernel)]; exact ⟨rfl, rfl⟩))
    (fun os started H enc _ => lifted os started H enc)
/-- the statement -/
theorem proved : Rows.FnExactLandTextCardSaid :=
  Claim7.holds_tied_plain_at .later [] [.data, .data, .data] true _ _
    over (fun _ h => by cases h) (by kernel_rfl) (fun _ h => by cases h) fnExactLandText_row_tie rfl ⟨rfl, rfl⟩ (by kernel_rfl) rfl
    (fun f fn hf hfn => by
      obtain rfl : f = 8 := Option.some.inj ((show Tryd.prog.funcNamed "loop.example/g01032/laws.FnExactLandText" = some 8 by kernel_rfl).symm.trans hf) |>.symm
      obtain rfl : fn = Tryd.f8 := (Option.some.inj (Tryd.func8.symm.trans hfn)).symm
      exact ⟨by kernel_rfl, fun j t ht => by
        rw [Tryd.params8] at ht
        have hm : t ∈ [50] := by simpa using Array.mem_of_getElem? ht
        have hall : ([50].all fun u => !Tryd.prog.wantsStandIn u) = true := by kernel_rfl
        exact (show Tryd.prog.wantsStandIn t = false by simpa using List.all_eq_true.1 hall t hm)⟩)
    (by kernel_rfl)
#print axioms proved
end Go.Proofs.YtfkleaagpflpkaaDoor.fnExactLandText
