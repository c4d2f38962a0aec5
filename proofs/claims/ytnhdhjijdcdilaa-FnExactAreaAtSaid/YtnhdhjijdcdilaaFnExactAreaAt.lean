/-
  The law 'FnExactAreaAt' holds for every input: how fast the volume grows at a level is the reference's. No condition.
  The frame follows the kit's template for such a statement; the walk is ours.
-/
import Derived.Test.YtnhdhjijdcdilaaRows
import Derived.Test.YtnhdhjijdcdilaaOnly
import Derived.Test.YtnhdhjijdcdilaaArea
import Derived.Test.YtnhdhjijdcdilaaOpen
import Derived.Lib.SmallJoins
import Derived.Deep.RegionHeld3
namespace Go.Proofs.Ytnhdhjijdcdilaa.fnExactAreaAt
open Go.ChangeShapes Go.WideShapes Go.ChangeAt Go.RowKit Go.Joins
open Go.ChangeMaps (open_string shut_string)
set_option linter.unusedVariables false
set_option maxHeartbeats 4000000 in
theorem walk (Als : Option Addr) (ls : List Int) (cls : Nat) (Avs : Option Addr) (vs : List Int) (cvs : Nat) (y : Int) (w : World) (rls : RC w Als (ints ls)) (mls : ls.length ≤ 9223372036854775807) (rvs : RC w Avs (ints vs)) (mvs : vs.length ≤ 9223372036854775807) (wy : (Lit.int .i64 y).wf = true) :
    Calls Try.prog 12 #[.agg #[.slice Als (List.length ls) cls, .slice Avs (List.length vs) cvs], .int .i64 y] w fun e w' => e = .returned (.bool true) ∧ Below w.heap.size w w' := by
  clear wy
  by_cases hz0 : ls.length + vs.length ≤ 1048576
  rotate_left
  · go_enter Try.func12, Try.ntmps12
    go_wp2_with fail
    refine (szCurve_no _ _ _ _ _ _ _ _ (by omega) (by omega) (by omega) mls mvs).mono ?_
    rintro e w1 ⟨rfl, b1⟩
    go_wp2
    go_ret
    exact ⟨rfl, by repeat (first | exact Below.refl _ _ | assumption | apply bl_alloc | apply bl_drewN | apply Below.drew | (refine bl_set ?_ (by first | exact Nat.le_refl _ | (simp; done) | (simp; omega)) _) | (refine bl_trans ?_ (by assumption)))⟩
  have hmls : ls.length ≤ 1048576 := by omega
  have hmvs : vs.length ≤ 1048576 := by omega
  go_enter Try.func12, Try.ntmps12
  go_wp2_with fail
  refine (szCurve_yes _ _ _ _ _ _ _ _ (by omega) (by omega)).mono ?_
  rintro e w1 ⟨rfl, b1⟩
  have s1 : Below w.heap.size w w1 := (by repeat (first | exact Below.refl _ _ | assumption | apply bl_alloc | apply bl_drewN | apply Below.drew | (refine bl_set ?_ (by first | exact Nat.le_refl _ | (simp; done) | (simp; omega)) _) | (refine bl_trans ?_ (by assumption))))
  have z1 := s1.size
  have t1 : Below w.heap.size w w1 := s1
  have kp : w1.heap[w.heap.size]? = some (.cells #[.slice Als (List.length ls) cls, .slice Avs (List.length vs) cvs] 30 (0, 0)) := keep_blk (hb := b1) (h := by repeat (first | (refine blk_new ?_; (first | rfl | (simp; done) | (simp; omega))) | refine blk_drewN ?_ | refine blk_old ?_))
  have vkp := blk_lt kp
  obtain ⟨kp0, kp1, kpl⟩ := row_two kp
  go_wp2_with fail
  refine (toCurve_any _ _ _ _ _ _ _ (rls.below (by repeat (first | exact Below.refl _ _ | assumption | apply bl_alloc | apply bl_drewN | apply Below.drew | (refine bl_set ?_ (by first | exact Nat.le_refl _ | (simp; done) | (simp; omega)) _) | (refine bl_trans ?_ (by assumption))))) (rvs.below (by repeat (first | exact Below.refl _ _ | assumption | apply bl_alloc | apply bl_drewN | apply Below.drew | (refine bl_set ?_ (by first | exact Nat.le_refl _ | (simp; done) | (simp; omega)) _) | (refine bl_trans ?_ (by assumption))))) hmls hmvs).mono ?_
  rintro e w2 ⟨X2, c2, Y2, d2, M2, rfl, g2, h2, o2, p2, b2⟩
  have s2 : Below w1.heap.size w1 w2 := (by repeat (first | exact Below.refl _ _ | assumption | apply bl_alloc | apply bl_drewN | apply Below.drew | (refine bl_set ?_ (by first | exact Nat.le_refl _ | (simp; done) | (simp; omega)) _) | (refine bl_trans ?_ (by assumption))))
  have z2 := s2.size
  have t2 : Below w.heap.size w w2 := t1.trans (s2.mono (by omega))
  replace kp : w2.heap[w.heap.size]? = some (.cells #[.slice Als (List.length ls) cls, .slice Avs (List.length vs) cvs] 30 (0, 0)) := keep_blk (hb := s2) (h := kp)
  clear kp0 kp1 kpl
  obtain ⟨kp0, kp1, kpl⟩ := row_two kp
  replace o2 := o2.wide (B' := w1.heap.size) (E' := M2) (Below.size (B := w1.heap.size) (by repeat (first | exact Below.refl _ _ | assumption | apply bl_alloc | apply bl_drewN | apply Below.drew | (refine bl_set ?_ (by first | exact Nat.le_refl _ | (simp; done) | (simp; omega)) _) | (refine bl_trans ?_ (by assumption))))) (Nat.le_refl _)
  replace g2 : w1.heap.size ≤ M2 := Nat.le_trans (Below.size (B := w1.heap.size) (by repeat (first | exact Below.refl _ _ | assumption | apply bl_alloc | apply bl_drewN | apply Below.drew | (refine bl_set ?_ (by first | exact Nat.le_refl _ | (simp; done) | (simp; omega)) _) | (refine bl_trans ?_ (by assumption))))) g2
  go_wp2_with fail
  refine (specArea _ _ _ _ _ ls vs y ((o2.below (Below.mono (B := w2.heap.size) (by repeat (first | exact Below.refl _ _ | assumption | apply bl_alloc | apply bl_drewN | apply Below.drew | (refine bl_set ?_ (by first | exact Nat.le_refl _ | (simp; done) | (simp; omega)) _) | (refine bl_trans ?_ (by assumption)))) (by omega))).rc) ((p2.below (Below.mono (B := w2.heap.size) (by repeat (first | exact Below.refl _ _ | assumption | apply bl_alloc | apply bl_drewN | apply Below.drew | (refine bl_set ?_ (by first | exact Nat.le_refl _ | (simp; done) | (simp; omega)) _) | (refine bl_trans ?_ (by assumption)))) (by omega))).rc) hmls hmvs).mono ?_
  rintro e w3 ⟨rfl, b3⟩
  have s3 : Below w2.heap.size w2 w3 := (by repeat (first | exact Below.refl _ _ | assumption | apply bl_alloc | apply bl_drewN | apply Below.drew | (refine bl_set ?_ (by first | exact Nat.le_refl _ | (simp; done) | (simp; omega)) _) | (refine bl_trans ?_ (by assumption))))
  have z3 := s3.size
  have t3 : Below w.heap.size w w3 := t2.trans (s3.mono (by omega))
  replace o2 := o2.below (s3.mono (by omega))
  replace p2 := p2.below (s3.mono (by omega))
  replace kp : w3.heap[w.heap.size]? = some (.cells #[.slice Als (List.length ls) cls, .slice Avs (List.length vs) cvs] 30 (0, 0)) := keep_blk (hb := s3) (h := kp)
  clear kp0 kp1 kpl
  obtain ⟨kp0, kp1, kpl⟩ := row_two kp
  clear o2 p2
  go_wp2_with fail
  refine (toCurve_any _ _ _ _ _ _ _ (rls.below (by repeat (first | exact Below.refl _ _ | assumption | apply bl_alloc | apply bl_drewN | apply Below.drew | (refine bl_set ?_ (by first | exact Nat.le_refl _ | (simp; done) | (simp; omega)) _) | (refine bl_trans ?_ (by assumption))))) (rvs.below (by repeat (first | exact Below.refl _ _ | assumption | apply bl_alloc | apply bl_drewN | apply Below.drew | (refine bl_set ?_ (by first | exact Nat.le_refl _ | (simp; done) | (simp; omega)) _) | (refine bl_trans ?_ (by assumption))))) hmls hmvs).mono ?_
  rintro e w4 ⟨X4, c4, Y4, d4, M4, rfl, g4, h4, o4, p4, b4⟩
  have s4 : Below w3.heap.size w3 w4 := (by repeat (first | exact Below.refl _ _ | assumption | apply bl_alloc | apply bl_drewN | apply Below.drew | (refine bl_set ?_ (by first | exact Nat.le_refl _ | (simp; done) | (simp; omega)) _) | (refine bl_trans ?_ (by assumption))))
  have z4 := s4.size
  have t4 : Below w.heap.size w w4 := t3.trans (s4.mono (by omega))
  replace kp : w4.heap[w.heap.size]? = some (.cells #[.slice Als (List.length ls) cls, .slice Avs (List.length vs) cvs] 30 (0, 0)) := keep_blk (hb := s4) (h := kp)
  clear kp0 kp1 kpl
  obtain ⟨kp0, kp1, kpl⟩ := row_two kp
  have kw : w4.heap[w3.heap.size]? = some (.cells #[.int .i64 (arX ls vs y), .int .i64 (arY ls vs y)] 59 (0, 0)) := keep_blk (hb := b4) (h := by repeat (first | (refine blk_new ?_; (first | rfl | (simp; done) | (simp; omega))) | refine blk_drewN ?_ | refine blk_old ?_))
  have vkw := blk_lt kw
  obtain ⟨kw0, kw1, kwl⟩ := row_two kw
  replace o4 := o4.wide (B' := (w3.heap.size + 1)) (E' := M4) (by first | exact Nat.le_refl _ | (simp; done) | (simp; omega)) (Nat.le_refl _)
  replace g4 : (w3.heap.size + 1) ≤ M4 := Nat.le_trans (by first | exact Nat.le_refl _ | (simp; done) | (simp; omega)) g4
  go_wp2_with fail
  refine (implArea _ _ _ _ _ ls vs y ((o4.below (Below.mono (B := w4.heap.size) (by repeat (first | exact Below.refl _ _ | assumption | apply bl_alloc | apply bl_drewN | apply Below.drew | (refine bl_set ?_ (by first | exact Nat.le_refl _ | (simp; done) | (simp; omega)) _) | (refine bl_trans ?_ (by assumption)))) (by omega))).rc) ((p4.below (Below.mono (B := w4.heap.size) (by repeat (first | exact Below.refl _ _ | assumption | apply bl_alloc | apply bl_drewN | apply Below.drew | (refine bl_set ?_ (by first | exact Nat.le_refl _ | (simp; done) | (simp; omega)) _) | (refine bl_trans ?_ (by assumption)))) (by omega))).rc) hmls hmvs).mono ?_
  rintro e w5 ⟨rfl, b5⟩
  have s5 : Below w4.heap.size w4 w5 := (by repeat (first | exact Below.refl _ _ | assumption | apply bl_alloc | apply bl_drewN | apply Below.drew | (refine bl_set ?_ (by first | exact Nat.le_refl _ | (simp; done) | (simp; omega)) _) | (refine bl_trans ?_ (by assumption))))
  have z5 := s5.size
  have t5 : Below w.heap.size w w5 := t4.trans (s5.mono (by omega))
  replace o4 := o4.below (s5.mono (by omega))
  replace p4 := p4.below (s5.mono (by omega))
  replace kp : w5.heap[w.heap.size]? = some (.cells #[.slice Als (List.length ls) cls, .slice Avs (List.length vs) cvs] 30 (0, 0)) := keep_blk (hb := s5) (h := kp)
  clear kp0 kp1 kpl
  obtain ⟨kp0, kp1, kpl⟩ := row_two kp
  replace kw : w5.heap[w3.heap.size]? = some (.cells #[.int .i64 (arX ls vs y), .int .i64 (arY ls vs y)] 59 (0, 0)) := keep_blk (hb := s5) (h := kw)
  clear kw0 kw1 kwl
  obtain ⟨kw0, kw1, kwl⟩ := row_two kw
  have kx : w5.heap[w4.heap.size]? = some (.cells #[.slice X4 (List.length ls) c4, .slice Y4 (List.length vs) d4] 33 (0, 0)) := keep_blk (hb := b5) (h := by repeat (first | (refine blk_new ?_; (first | rfl | (simp; done) | (simp; omega))) | refine blk_drewN ?_ | refine blk_old ?_))
  have vkx := blk_lt kx
  obtain ⟨kx0, kx1, kxl⟩ := row_two kx
  go_wp2_with fail
  refine (eqFraction_any _ _ _).mono ?_
  rintro e w6 ⟨rfl, b6⟩
  have s6 : Below w5.heap.size w5 w6 := (by repeat (first | exact Below.refl _ _ | assumption | apply bl_alloc | apply bl_drewN | apply Below.drew | (refine bl_set ?_ (by first | exact Nat.le_refl _ | (simp; done) | (simp; omega)) _) | (refine bl_trans ?_ (by assumption))))
  have z6 := s6.size
  have t6 : Below w.heap.size w w6 := t5.trans (s6.mono (by omega))
  replace o4 := o4.below (s6.mono (by omega))
  replace p4 := p4.below (s6.mono (by omega))
  replace kp : w6.heap[w.heap.size]? = some (.cells #[.slice Als (List.length ls) cls, .slice Avs (List.length vs) cvs] 30 (0, 0)) := keep_blk (hb := s6) (h := kp)
  clear kp0 kp1 kpl
  obtain ⟨kp0, kp1, kpl⟩ := row_two kp
  replace kw : w6.heap[w3.heap.size]? = some (.cells #[.int .i64 (arX ls vs y), .int .i64 (arY ls vs y)] 59 (0, 0)) := keep_blk (hb := s6) (h := kw)
  clear kw0 kw1 kwl
  obtain ⟨kw0, kw1, kwl⟩ := row_two kw
  replace kx : w6.heap[w4.heap.size]? = some (.cells #[.slice X4 (List.length ls) c4, .slice Y4 (List.length vs) d4] 33 (0, 0)) := keep_blk (hb := s6) (h := kx)
  clear kx0 kx1 kxl
  obtain ⟨kx0, kx1, kxl⟩ := row_two kx
  have kg : w6.heap[w5.heap.size]? = some (.cells #[.int .i64 (arX ls vs y), .int .i64 (arY ls vs y)] 59 (0, 0)) := keep_blk (hb := b6) (h := by repeat (first | (refine blk_new ?_; (first | rfl | (simp; done) | (simp; omega))) | refine blk_drewN ?_ | refine blk_old ?_))
  have vkg := blk_lt kg
  obtain ⟨kg0, kg1, kgl⟩ := row_two kg
  go_wp2_with fail
  go_region_held3 (fun w' => w'.cell? ⟨w4.heap.size, 0, none⟩ = some (.slice X4 (List.length ls) c4) ∧ w'.cell? ⟨w4.heap.size, 1, none⟩ = some (.slice Y4 (List.length vs) d4) ∧ w'.cell? ⟨w.heap.size, 0, none⟩ = some (.slice Als (List.length ls) cls) ∧ w'.cell? ⟨w.heap.size, 1, none⟩ = some (.slice Avs (List.length vs) cvs)) (((try dsimp only); refine ⟨?_, ?_, ?_, ?_⟩ <;> (repeat (first | with_reducible assumption | with_reducible refine kc_drew ?_ | with_reducible refine kc_drewN ?_ | with_reducible refine kc_alloc ?_ | with_reducible refine kc_set ?_ (by first | omega | (simp; done) | (simp; omega)))))) (first | (go_at_call 22; refine (toCurve_any _ _ _ _ _ _ _ (rls.below (by repeat (first | exact Below.refl _ _ | assumption | apply bl_alloc | apply bl_drewN | apply Below.drew | (refine bl_set ?_ (by first | exact Nat.le_refl _ | (simp; done) | (simp; omega)) _) | (refine bl_trans ?_ (by assumption))))) (rvs.below (by repeat (first | exact Below.refl _ _ | assumption | apply bl_alloc | apply bl_drewN | apply Below.drew | (refine bl_set ?_ (by first | exact Nat.le_refl _ | (simp; done) | (simp; omega)) _) | (refine bl_trans ?_ (by assumption))))) hmls hmvs).mono ?_; rintro e w7 ⟨X7, c7, Y7, d7, M7, rfl, g7, h7, o7, p7, b7⟩; have s7 : Below w6.heap.size w6 w7 := (by repeat (first | exact Below.refl _ _ | assumption | apply bl_alloc | apply bl_drewN | apply Below.drew | (refine bl_set ?_ (by first | exact Nat.le_refl _ | (simp; done) | (simp; omega)) _) | (refine bl_trans ?_ (by assumption)))); have z7 := s7.size; have t7 : Below w.heap.size w w7 := t6.trans (s7.mono (by omega)); replace o4 := o4.below (s7.mono (by omega)); replace p4 := p4.below (s7.mono (by omega)); replace kp : w7.heap[w.heap.size]? = some (.cells #[.slice Als (List.length ls) cls, .slice Avs (List.length vs) cvs] 30 (0, 0)) := keep_blk (hb := s7) (h := kp); clear kp0 kp1 kpl; obtain ⟨kp0, kp1, kpl⟩ := row_two kp; replace kw : w7.heap[w3.heap.size]? = some (.cells #[.int .i64 (arX ls vs y), .int .i64 (arY ls vs y)] 59 (0, 0)) := keep_blk (hb := s7) (h := kw); clear kw0 kw1 kwl; obtain ⟨kw0, kw1, kwl⟩ := row_two kw; replace kx : w7.heap[w4.heap.size]? = some (.cells #[.slice X4 (List.length ls) c4, .slice Y4 (List.length vs) d4] 33 (0, 0)) := keep_blk (hb := s7) (h := kx); clear kx0 kx1 kxl; obtain ⟨kx0, kx1, kxl⟩ := row_two kx; replace kg : w7.heap[w5.heap.size]? = some (.cells #[.int .i64 (arX ls vs y), .int .i64 (arY ls vs y)] 59 (0, 0)) := keep_blk (hb := s7) (h := kg); clear kg0 kg1 kgl; obtain ⟨kg0, kg1, kgl⟩ := row_two kg; replace o7 := o7.wide (B' := w6.heap.size) (E' := M7) (Below.size (B := w6.heap.size) (by repeat (first | exact Below.refl _ _ | assumption | apply bl_alloc | apply bl_drewN | apply Below.drew | (refine bl_set ?_ (by first | exact Nat.le_refl _ | (simp; done) | (simp; omega)) _) | (refine bl_trans ?_ (by assumption))))) (Nat.le_refl _); replace g7 : w6.heap.size ≤ M7 := Nat.le_trans (Below.size (B := w6.heap.size) (by repeat (first | exact Below.refl _ _ | assumption | apply bl_alloc | apply bl_drewN | apply Below.drew | (refine bl_set ?_ (by first | exact Nat.le_refl _ | (simp; done) | (simp; omega)) _) | (refine bl_trans ?_ (by assumption))))) g7) | (go_at_call 24; refine (eqCurve_any _ _ _ _ _ _ _ _ _ _ _ ((o4.below (Below.mono (B := w7.heap.size) (by repeat (first | exact Below.refl _ _ | assumption | apply bl_alloc | apply bl_drewN | apply Below.drew | (refine bl_set ?_ (by first | exact Nat.le_refl _ | (simp; done) | (simp; omega)) _) | (refine bl_trans ?_ (by assumption)))) (by omega))).rc) ((p4.below (Below.mono (B := w7.heap.size) (by repeat (first | exact Below.refl _ _ | assumption | apply bl_alloc | apply bl_drewN | apply Below.drew | (refine bl_set ?_ (by first | exact Nat.le_refl _ | (simp; done) | (simp; omega)) _) | (refine bl_trans ?_ (by assumption)))) (by omega))).rc) ((o7.below (Below.mono (B := w7.heap.size) (by repeat (first | exact Below.refl _ _ | assumption | apply bl_alloc | apply bl_drewN | apply Below.drew | (refine bl_set ?_ (by first | exact Nat.le_refl _ | (simp; done) | (simp; omega)) _) | (refine bl_trans ?_ (by assumption)))) (by omega))).rc) ((p7.below (Below.mono (B := w7.heap.size) (by repeat (first | exact Below.refl _ _ | assumption | apply bl_alloc | apply bl_drewN | apply Below.drew | (refine bl_set ?_ (by first | exact Nat.le_refl _ | (simp; done) | (simp; omega)) _) | (refine bl_trans ?_ (by assumption)))) (by omega))).rc) hmls hmvs).mono ?_; rintro e w8 ⟨rfl, b8⟩; have s8 : Below w7.heap.size w7 w8 := (by repeat (first | exact Below.refl _ _ | assumption | apply bl_alloc | apply bl_drewN | apply Below.drew | (refine bl_set ?_ (by first | exact Nat.le_refl _ | (simp; done) | (simp; omega)) _) | (refine bl_trans ?_ (by assumption)))); have z8 := s8.size; have t8 : Below w.heap.size w w8 := t7.trans (s8.mono (by omega)); replace o4 := o4.below (s8.mono (by omega)); replace p4 := p4.below (s8.mono (by omega)); replace o7 := o7.below (s8.mono (by omega)); replace p7 := p7.below (s8.mono (by omega)); replace kp : w8.heap[w.heap.size]? = some (.cells #[.slice Als (List.length ls) cls, .slice Avs (List.length vs) cvs] 30 (0, 0)) := keep_blk (hb := s8) (h := kp); clear kp0 kp1 kpl; obtain ⟨kp0, kp1, kpl⟩ := row_two kp; replace kw : w8.heap[w3.heap.size]? = some (.cells #[.int .i64 (arX ls vs y), .int .i64 (arY ls vs y)] 59 (0, 0)) := keep_blk (hb := s8) (h := kw); clear kw0 kw1 kwl; obtain ⟨kw0, kw1, kwl⟩ := row_two kw; replace kx : w8.heap[w4.heap.size]? = some (.cells #[.slice X4 (List.length ls) c4, .slice Y4 (List.length vs) d4] 33 (0, 0)) := keep_blk (hb := s8) (h := kx); clear kx0 kx1 kxl; obtain ⟨kx0, kx1, kxl⟩ := row_two kx; replace kg : w8.heap[w5.heap.size]? = some (.cells #[.int .i64 (arX ls vs y), .int .i64 (arY ls vs y)] 59 (0, 0)) := keep_blk (hb := s8) (h := kg); clear kg0 kg1 kgl; obtain ⟨kg0, kg1, kgl⟩ := row_two kg))
  clear o7 p7
  go_wp2
  go_ret
  exact ⟨rfl, by repeat (first | exact Below.refl _ _ | assumption | apply bl_alloc | apply bl_drewN | apply Below.drew | (refine bl_set ?_ (by first | exact Nat.le_refl _ | (simp; done) | (simp; omega)) _) | (refine bl_trans ?_ (by assumption)))⟩

theorem own : ownKnob Try.prog.godebug = none := by kernel_rfl
theorem laidOut : laidOutB Try.prog = true := by kernel_rfl
set_option maxRecDepth 100000 in
theorem lifted (os : Os) (started : os.Started) (H : Type) (enc : TypeId × Value → H) :
    ReturnsInHanded {} Try.checked os 12 .any (Rows.fnExactAreaAtSpec.pre6 enc Try.prog Try.f12 Rows.fnExactAreaAtRow.domain false) (Rows.fnExactAreaAtSpec.post enc Try.prog Try.f12 false true false false) := by
  refine returnsInHanded_of_change (C := Try.checked) own started (by kernel_rfl) Try.func12
    (ChangeSpec.witness6 (enc := enc) (C := Try.checked) false ⟨#[], #[.agg #[.slice none 0 0, .slice none 0 0], .int .i64 0], []⟩ 8 (by kernel_rfl) (by kernel_rfl) (by kernel_rfl) (by kernel_rfl)) ?_
  intro W base args ds gs before hval0 hW hcnd _
  have hval : ∀ (j : Nat) t v, Try.f12.params[j]? = some t → args[j]? = some v → Value.okWide Try.prog W .any base t v := hval0
  have hW' := hW
  obtain ⟨p, q, hA0, hV, rfl, hfz, hnd⟩ := hW
  have hA : DataW.TrodAll enc Try.prog W 0 (fun _ => true) true Try.f12.params.toList args.toList ds p := hA0
  rw [Try.params12] at hA hval
  obtain ⟨v0, vs0, d0, ds0, p0, q0, hargs, rfl, rfl, h0, r0⟩ := trodAll_cons hA
  obtain ⟨v1, vs1, d1, ds1, p1, q1, rfl, rfl, rfl, h1, r1⟩ := trodAll_cons r0
  obtain ⟨rfl, rfl, rfl⟩ := trodAll_nil r1
  obtain rfl : args = #[v0, v1] := by cases args; simp_all
  obtain ⟨rfl, rfl⟩ := trodVars_none hV
  have k0 := h0
  have lt0 : ∀ x ∈ p0, x.block < W.heap.size := by obtain ⟨m, hm⟩ := k0; exact DataW.trod_lt m _ _ _ hm
  obtain ⟨e0_0, e0_1, y0_0, y0_1, fu0, rfl, _, _, hy0_0, hy0_1⟩ := open_agg2 Try.underlying30 (by kernel_rfl) (by kernel_rfl) (hval 0 30 v0 rfl rfl) h0
  obtain ⟨Als, ls, cls, hc0_0, rls, mls⟩ := open_list Try.underlying23 Try.underlying2 (by kernel_rfl) hy0_0
  simp only [List.cons.injEq, and_true] at hc0_0
  subst hc0_0
  obtain ⟨Avs, vs, cvs, hc0_1, rvs, mvs⟩ := open_list Try.underlying23 Try.underlying2 (by kernel_rfl) hy0_1
  simp only [List.cons.injEq, and_true] at hc0_1
  subst hc0_1
  have k1 := h1
  have lt1 : ∀ x ∈ p1, x.block < W.heap.size := by obtain ⟨m, hm⟩ := k1; exact DataW.trod_lt m _ _ _ hm
  obtain ⟨y, rfl, _, _, wy⟩ := open_int Try.underlying2 (hval 1 2 v1 rfl rfl) h1
  refine (walk Als ls cls Avs vs cvs y W rls mls rvs mvs wy).mono fun e W' ⟨he, bel⟩ => ?_
  subst he
  exact ⟨_, rfl, _, _, _, [], _, [], hW', trodAll_mk1 (shut_bool Try.underlying4 _), (trodAll_cons_mk (Below.trod laidOut (by kernel_rfl) (of_decide_eq_true (by kernel_rfl)) k0 bel lt0) (trodAll_cons_mk (Below.trod laidOut (by kernel_rfl) (of_decide_eq_true (by kernel_rfl)) k1 bel lt1) trodAll_mk0)), rfl, bel.frame _, fun h => by cases h⟩
theorem over : Rows.fnExactAreaAtRow.holds Try.pinned (OpenSpec.ofChange Rows.fnExactAreaAtSpec) :=
  OpenClaim.holds_of_wide 12 Try.f12 rfl rfl rfl rfl rfl rfl rfl ⟨rfl, rfl, rfl, rfl, rfl⟩ rfl rfl rfl rfl rfl (by kernel_rfl) Try.func12 (by kernel_rfl)
    (of_decide_eq_true (by kernel_rfl)) (by unfold Func.isWrapper; first | (rw [if_pos (by decide +kernel)]; kernel_rfl) | (rw [if_neg (by decide +kernel)]; exact ⟨rfl, rfl⟩))
    (fun os started H enc _ => lifted os started H enc)
/-- the statement -/
theorem proved : Rows.FnExactAreaAtSaid := over
#print axioms proved
end Go.Proofs.Ytnhdhjijdcdilaa.fnExactAreaAt
