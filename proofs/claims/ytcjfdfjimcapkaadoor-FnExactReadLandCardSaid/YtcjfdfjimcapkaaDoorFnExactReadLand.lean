/-
  The law 'FnExactReadLand' holds for every input: the land with a text is the reference's. No condition.
  The frame follows the kit's template for such a statement; the walk is ours.
-/
import Derived.Test.YtcjfdfjimcapkaaDoorRows
import Derived.Test.YtcjfdfjimcapkaaDoorMarks
import Derived.Test.YtcjfdfjimcapkaaDoorReadLI
import Derived.Test.YtcjfdfjimcapkaaDoorOpen
import Derived.Test.YtcjfdfjimcapkaaDoorCards
import Derived.Test.YtcjfdfjimcapkaaDoorTie
import Derived.Lib.SmallJoins
import Derived.LaidMore
import Derived.Lib.LaidTab
import Derived.ProofKit
import Derived.OpenShut
import Derived.Stop.Joined
import Derived.Stop.LaidErr
import Derived.SevenTiedAt
import Derived.Deep.RegionHeld3
namespace Go.Proofs.YtcjfdfjimcapkaaDoor.fnExactReadLand
open Go.ChangeShapes Go.WideShapes Go.ChangeAt Go.RowKit Go.Joins
open Go.ChangeMaps (open_string shut_string)
set_option linter.unusedVariables false
set_option maxRecDepth 100000 in
set_option maxHeartbeats 4000000 in
theorem walk (s : ByteArray) (w : World) (ws : s.size ≤ 9223372036854775807) (hpow : Lib.TabIs Tryd.prog w "internal/strconv.uint64pow10" .u64 Lib.pow10Tab) {t1 t2 : TypeId} {p1 p2 : Value}
    (hs : w.var? Tryd.prog "strconv.ErrSyntax" = some #[.iface t1 p1]) (hr : w.var? Tryd.prog "strconv.ErrRange" = some #[.iface t2 p2]) :
    Calls Tryd.prog 5 #[.string s] w fun e w' => e = .returned (.bool true) ∧ Below w.heap.size w w' := by
  have HR := Lib.hid (rdy_of hpow hs hr)
  clear hpow hs hr
  by_cases hm : s.size ≤ 1048576
  · obtain ⟨l, rfl⟩ : ∃ l : List UInt8, s = ⟨l.toArray⟩ := ⟨s.data.toList, rfl⟩
    have hl : l.length ≤ 1048576 := by simpa [ByteArray.size] using hm
    have hmH : (rdH l).length ≤ 1048576 := Nat.le_trans (rdH_len l) hl
    go_enter Tryd.func5, Tryd.ntmps5
    go_wp2_with fail
    refine (specReadL _ l hl).mono ?_
    rintro e w1 ⟨X1, c1, rfl, o1, b1⟩
    have s1 : Below w.heap.size w w1 := (by repeat (first | exact Below.refl _ _ | assumption | apply bl_alloc | apply bl_drewN | apply Below.drew | (refine bl_set ?_ (by first | exact Nat.le_refl _ | (simp; done) | (simp; omega)) _) | (refine bl_trans ?_ (by assumption))))
    have z1 := s1.size
    have t1 : Below w.heap.size w w1 := s1
    replace o1 := o1.wide (B' := w.heap.size) (E' := w1.heap.size) (Below.size (B := w.heap.size) (by repeat (first | exact Below.refl _ _ | assumption | apply bl_alloc | apply bl_drewN | apply Below.drew | (refine bl_set ?_ (by first | exact Nat.le_refl _ | (simp; done) | (simp; omega)) _) | (refine bl_trans ?_ (by assumption))))) (Nat.le_refl _)
    go_wp2_with fail
    refine (implReadL _ l w.heap.size _ _ _ _ hl (HR.out.below (by repeat (first | exact Below.refl _ _ | assumption | apply bl_alloc | apply bl_drewN | apply Below.drew | (refine bl_set ?_ (by first | exact Nat.le_refl _ | (simp; done) | (simp; omega)) _) | (refine bl_trans ?_ (by assumption)))))).mono ?_
    rintro e w2 ⟨X2, c2, rfl, o2, b2⟩
    have s2 : Below w1.heap.size w1 w2 := (by repeat (first | exact Below.refl _ _ | assumption | apply bl_alloc | apply bl_drewN | apply Below.drew | (refine bl_set ?_ (by first | exact Nat.le_refl _ | (simp; done) | (simp; omega)) _) | (refine bl_trans ?_ (by assumption))))
    have z2 := s2.size
    have t2 : Below w.heap.size w w2 := t1.trans (s2.mono (by omega))
    replace o1 := o1.below (s2.mono (by omega))
    have kw : w2.heap[w1.heap.size]? = some (.cells #[.int .i64 (rdR l), .int .i64 (rdC l), .slice X1 (rdH l).length c1] 38 (0, 0)) := keep_blk (hb := b2) (h := by repeat (first | (refine blk_new ?_; (first | rfl | (simp; done) | (simp; omega))) | refine blk_drewN ?_ | refine blk_drew ?_ | refine blk_old ?_))
    have vkw := blk_lt kw
    obtain ⟨kw0, kw1, kw2, kwl⟩ := row_three kw
    replace o2 := o2.wide (B' := (w1.heap.size + 1)) (E' := w2.heap.size) (by first | exact Nat.le_refl _ | (simp; done) | (simp; omega)) (Nat.le_refl _)
    go_wp2_with fail
    refine (eqLand_any _ _ _ _ _ _ _ _ ((o2.below (Below.mono (B := w2.heap.size) (by repeat (first | exact Below.refl _ _ | assumption | apply bl_alloc | apply bl_drewN | apply Below.drew | (refine bl_set ?_ (by first | exact Nat.le_refl _ | (simp; done) | (simp; omega)) _) | (refine bl_trans ?_ (by assumption)))) (by omega))).rc) ((o1.below (Below.mono (B := w2.heap.size) (by repeat (first | exact Below.refl _ _ | assumption | apply bl_alloc | apply bl_drewN | apply Below.drew | (refine bl_set ?_ (by first | exact Nat.le_refl _ | (simp; done) | (simp; omega)) _) | (refine bl_trans ?_ (by assumption)))) (by omega))).rc) hmH).mono ?_
    rintro e w3 ⟨rfl, b3⟩
    have s3 : Below w2.heap.size w2 w3 := (by repeat (first | exact Below.refl _ _ | assumption | apply bl_alloc | apply bl_drewN | apply Below.drew | (refine bl_set ?_ (by first | exact Nat.le_refl _ | (simp; done) | (simp; omega)) _) | (refine bl_trans ?_ (by assumption))))
    have z3 := s3.size
    have t3 : Below w.heap.size w w3 := t2.trans (s3.mono (by omega))
    replace o1 := o1.below (s3.mono (by omega))
    replace o2 := o2.below (s3.mono (by omega))
    replace kw : w3.heap[w1.heap.size]? = some (.cells #[.int .i64 (rdR l), .int .i64 (rdC l), .slice X1 (rdH l).length c1] 38 (0, 0)) := keep_blk (hb := s3) (h := kw)
    clear kw0 kw1 kw2 kwl
    obtain ⟨kw0, kw1, kw2, kwl⟩ := row_three kw
    have kg : w3.heap[w2.heap.size]? = some (.cells #[.int .i64 (rdR l), .int .i64 (rdC l), .slice X2 (rdH l).length c2] 38 (0, 0)) := keep_blk (hb := b3) (h := by repeat (first | (refine blk_new ?_; (first | rfl | (simp; done) | (simp; omega))) | refine blk_drewN ?_ | refine blk_drew ?_ | refine blk_old ?_))
    have vkg := blk_lt kg
    obtain ⟨kg0, kg1, kg2, kgl⟩ := row_three kg
    go_wp2_with fail
    refine (markLand_any _ _ _ _ _ _ _ _ _ _ (o2.below (Below.mono (B := w3.heap.size) (by repeat (first | exact Below.refl _ _ | assumption | apply bl_alloc | apply bl_drewN | apply Below.drew | (refine bl_set ?_ (by first | exact Nat.le_refl _ | (simp; done) | (simp; omega)) _) | (refine bl_trans ?_ (by assumption)))) (by omega))) (ints_len _) hmH (by omega) (by omega)).mono ?_
    rintro e w4 ⟨rfl, q4, m4⟩
    have Q4 : OnlyR (w1.heap.size + 1) w2.heap.size w3 w4 := OnlyR.pre (by repeat (first | exact Below.refl _ _ | assumption | apply bl_alloc | apply bl_drewN | apply Below.drew | (refine bl_set ?_ (by first | exact Nat.le_refl _ | (simp; done) | (simp; omega)) _) | (refine bl_trans ?_ (by assumption)))) (q4.r (o2.below (Below.mono (B := w3.heap.size) (by repeat (first | exact Below.refl _ _ | assumption | apply bl_alloc | apply bl_drewN | apply Below.drew | (refine bl_set ?_ (by first | exact Nat.le_refl _ | (simp; done) | (simp; omega)) _) | (refine bl_trans ?_ (by assumption)))) (by omega))) (Nat.le_of_eq (ints_len _).symm))
    have z4 := Q4.size
    have t4 : Below w.heap.size w w4 := t3.trans (Q4.below (by omega) (by omega))
    replace o1 := o1.onlyR Q4 (by omega)
    replace kw : w4.heap[w1.heap.size]? = some (.cells #[.int .i64 (rdR l), .int .i64 (rdC l), .slice X1 (rdH l).length c1] 38 (0, 0)) := keep_onlyR kw Q4 (by first | omega | (simp; omega))
    clear kw0 kw1 kw2 kwl
    obtain ⟨kw0, kw1, kw2, kwl⟩ := row_three kw
    replace kg : w4.heap[w2.heap.size]? = some (.cells #[.int .i64 (rdR l), .int .i64 (rdC l), .slice X2 (rdH l).length c2] 38 (0, 0)) := keep_onlyR kg Q4 (by first | omega | (simp; omega))
    clear kg0 kg1 kg2 kgl
    obtain ⟨kg0, kg1, kg2, kgl⟩ := row_three kg
    clear o2
    go_wp2_with fail
    refine (heldLand_any _ _ _ _ _ _ _ ((m4.below (Below.mono (B := w4.heap.size) (by repeat (first | exact Below.refl _ _ | assumption | apply bl_alloc | apply bl_drewN | apply Below.drew | (refine bl_set ?_ (by first | exact Nat.le_refl _ | (simp; done) | (simp; omega)) _) | (refine bl_trans ?_ (by assumption)))) (by omega))).rc) hmH (by omega) (by omega)).mono ?_
    rintro e w5 ⟨rfl, b5⟩
    have s5 : Below w4.heap.size w4 w5 := (by repeat (first | exact Below.refl _ _ | assumption | apply bl_alloc | apply bl_drewN | apply Below.drew | (refine bl_set ?_ (by first | exact Nat.le_refl _ | (simp; done) | (simp; omega)) _) | (refine bl_trans ?_ (by assumption))))
    have z5 := s5.size
    have t5 : Below w.heap.size w w5 := t4.trans (s5.mono (by omega))
    replace o1 := o1.below (s5.mono (by omega))
    replace m4 := m4.below (s5.mono (by omega))
    replace kw : w5.heap[w1.heap.size]? = some (.cells #[.int .i64 (rdR l), .int .i64 (rdC l), .slice X1 (rdH l).length c1] 38 (0, 0)) := keep_blk (hb := s5) (h := kw)
    clear kw0 kw1 kw2 kwl
    obtain ⟨kw0, kw1, kw2, kwl⟩ := row_three kw
    replace kg : w5.heap[w2.heap.size]? = some (.cells #[.int .i64 (rdR l), .int .i64 (rdC l), .slice X2 (rdH l).length c2] 38 (0, 0)) := keep_blk (hb := s5) (h := kg)
    clear kg0 kg1 kg2 kgl
    obtain ⟨kg0, kg1, kg2, kgl⟩ := row_three kg
    go_wp2_with fail
    refine (implReadL _ l w.heap.size _ _ _ _ hl (HR.out.below (by repeat (first | exact Below.refl _ _ | assumption | apply bl_alloc | apply bl_drewN | apply Below.drew | (refine bl_set ?_ (by first | exact Nat.le_refl _ | (simp; done) | (simp; omega)) _) | (refine bl_trans ?_ (by assumption)))))).mono ?_
    rintro e w6 ⟨X6, c6, rfl, o6, b6⟩
    have s6 : Below w5.heap.size w5 w6 := (by repeat (first | exact Below.refl _ _ | assumption | apply bl_alloc | apply bl_drewN | apply Below.drew | (refine bl_set ?_ (by first | exact Nat.le_refl _ | (simp; done) | (simp; omega)) _) | (refine bl_trans ?_ (by assumption))))
    have z6 := s6.size
    have t6 : Below w.heap.size w w6 := t5.trans (s6.mono (by omega))
    replace o1 := o1.below (s6.mono (by omega))
    replace m4 := m4.below (s6.mono (by omega))
    replace kw : w6.heap[w1.heap.size]? = some (.cells #[.int .i64 (rdR l), .int .i64 (rdC l), .slice X1 (rdH l).length c1] 38 (0, 0)) := keep_blk (hb := s6) (h := kw)
    clear kw0 kw1 kw2 kwl
    obtain ⟨kw0, kw1, kw2, kwl⟩ := row_three kw
    replace kg : w6.heap[w2.heap.size]? = some (.cells #[.int .i64 (rdR l), .int .i64 (rdC l), .slice X2 (rdH l).length c2] 38 (0, 0)) := keep_blk (hb := s6) (h := kg)
    clear kg0 kg1 kg2 kgl
    obtain ⟨kg0, kg1, kg2, kgl⟩ := row_three kg
    replace o6 := o6.wide (B' := w5.heap.size) (E' := w6.heap.size) (Below.size (B := w5.heap.size) (by repeat (first | exact Below.refl _ _ | assumption | apply bl_alloc | apply bl_drewN | apply Below.drew | (refine bl_set ?_ (by first | exact Nat.le_refl _ | (simp; done) | (simp; omega)) _) | (refine bl_trans ?_ (by assumption))))) (Nat.le_refl _)
    go_wp2_with fail
    refine (eqLand_any _ _ _ _ _ _ _ _ ((o6.below (Below.mono (B := w6.heap.size) (by repeat (first | exact Below.refl _ _ | assumption | apply bl_alloc | apply bl_drewN | apply Below.drew | (refine bl_set ?_ (by first | exact Nat.le_refl _ | (simp; done) | (simp; omega)) _) | (refine bl_trans ?_ (by assumption)))) (by omega))).rc) ((o1.below (Below.mono (B := w6.heap.size) (by repeat (first | exact Below.refl _ _ | assumption | apply bl_alloc | apply bl_drewN | apply Below.drew | (refine bl_set ?_ (by first | exact Nat.le_refl _ | (simp; done) | (simp; omega)) _) | (refine bl_trans ?_ (by assumption)))) (by omega))).rc) hmH).mono ?_
    rintro e w7 ⟨rfl, b7⟩
    have s7 : Below w6.heap.size w6 w7 := (by repeat (first | exact Below.refl _ _ | assumption | apply bl_alloc | apply bl_drewN | apply Below.drew | (refine bl_set ?_ (by first | exact Nat.le_refl _ | (simp; done) | (simp; omega)) _) | (refine bl_trans ?_ (by assumption))))
    have z7 := s7.size
    have t7 : Below w.heap.size w w7 := t6.trans (s7.mono (by omega))
    replace o1 := o1.below (s7.mono (by omega))
    replace m4 := m4.below (s7.mono (by omega))
    replace o6 := o6.below (s7.mono (by omega))
    replace kw : w7.heap[w1.heap.size]? = some (.cells #[.int .i64 (rdR l), .int .i64 (rdC l), .slice X1 (rdH l).length c1] 38 (0, 0)) := keep_blk (hb := s7) (h := kw)
    clear kw0 kw1 kw2 kwl
    obtain ⟨kw0, kw1, kw2, kwl⟩ := row_three kw
    replace kg : w7.heap[w2.heap.size]? = some (.cells #[.int .i64 (rdR l), .int .i64 (rdC l), .slice X2 (rdH l).length c2] 38 (0, 0)) := keep_blk (hb := s7) (h := kg)
    clear kg0 kg1 kg2 kgl
    obtain ⟨kg0, kg1, kg2, kgl⟩ := row_three kg
    have kh : w7.heap[w6.heap.size]? = some (.cells #[.int .i64 (rdR l), .int .i64 (rdC l), .slice X6 (rdH l).length c6] 38 (0, 0)) := keep_blk (hb := b7) (h := by repeat (first | (refine blk_new ?_; (first | rfl | (simp; done) | (simp; omega))) | refine blk_drewN ?_ | refine blk_drew ?_ | refine blk_old ?_))
    have vkh := blk_lt kh
    obtain ⟨kh0, kh1, kh2, khl⟩ := row_three kh
    go_wp2_with fail
    refine (heldLand_any _ _ _ _ _ _ _ ((m4.below (Below.mono (B := w7.heap.size) (by repeat (first | exact Below.refl _ _ | assumption | apply bl_alloc | apply bl_drewN | apply Below.drew | (refine bl_set ?_ (by first | exact Nat.le_refl _ | (simp; done) | (simp; omega)) _) | (refine bl_trans ?_ (by assumption)))) (by omega))).rc) hmH (by omega) (by omega)).mono ?_
    rintro e w8 ⟨rfl, b8⟩
    have s8 : Below w7.heap.size w7 w8 := (by repeat (first | exact Below.refl _ _ | assumption | apply bl_alloc | apply bl_drewN | apply Below.drew | (refine bl_set ?_ (by first | exact Nat.le_refl _ | (simp; done) | (simp; omega)) _) | (refine bl_trans ?_ (by assumption))))
    have z8 := s8.size
    have t8 : Below w.heap.size w w8 := t7.trans (s8.mono (by omega))
    replace o1 := o1.below (s8.mono (by omega))
    replace m4 := m4.below (s8.mono (by omega))
    replace o6 := o6.below (s8.mono (by omega))
    replace kw : w8.heap[w1.heap.size]? = some (.cells #[.int .i64 (rdR l), .int .i64 (rdC l), .slice X1 (rdH l).length c1] 38 (0, 0)) := keep_blk (hb := s8) (h := kw)
    clear kw0 kw1 kw2 kwl
    obtain ⟨kw0, kw1, kw2, kwl⟩ := row_three kw
    replace kg : w8.heap[w2.heap.size]? = some (.cells #[.int .i64 (rdR l), .int .i64 (rdC l), .slice X2 (rdH l).length c2] 38 (0, 0)) := keep_blk (hb := s8) (h := kg)
    clear kg0 kg1 kg2 kgl
    obtain ⟨kg0, kg1, kg2, kgl⟩ := row_three kg
    replace kh : w8.heap[w6.heap.size]? = some (.cells #[.int .i64 (rdR l), .int .i64 (rdC l), .slice X6 (rdH l).length c6] 38 (0, 0)) := keep_blk (hb := s8) (h := kh)
    clear kh0 kh1 kh2 khl
    obtain ⟨kh0, kh1, kh2, khl⟩ := row_three kh
    go_wp2
    go_ret
    exact ⟨rfl, by repeat (first | exact Below.refl _ _ | assumption | apply bl_alloc | apply bl_drewN | apply Below.drew | (refine bl_set ?_ (by first | exact Nat.le_refl _ | (simp; done) | (simp; omega)) _) | (refine bl_trans ?_ (by assumption)))⟩
  · go_enter Tryd.func5, Tryd.ntmps5
    go_wp2_with fail
    go_ret
    exact ⟨rfl, by repeat (first | exact Below.refl _ _ | assumption | apply bl_alloc | apply bl_drewN | apply Below.drew | (refine bl_set ?_ (by first | exact Nat.le_refl _ | (simp; done) | (simp; omega)) _) | (refine bl_trans ?_ (by assumption)))⟩

theorem own : ownKnob Tryd.prog.godebug = none := by kernel_rfl
theorem laidOut : laidOutB Tryd.prog = true := by kernel_rfl
set_option maxRecDepth 100000 in
theorem door_met (os : Os) (args : Array Value) : laidMetH Tryd.prog Rows.fnExactReadLandRow.laid ((World.doorLaid Tryd.prog 100 os).forCall (fun _ _ => 0) ⟨#[], args, []⟩).memory :=
  laidMetH_of_parts3 (fuel := 8) (laidMet_of_run' 8 (by kernel_rfl) (by kernel_rfl)) (by kernel_rfl) (by kernel_rfl)
set_option maxRecDepth 100000 in
theorem lifted (os : Os) (started : os.Started) (H : Type) (enc : TypeId × Value → H) :
    ReturnsInHanded {} Tryd.checked os 5 .any (fun w args => (Rows.fnExactReadLandSpec.pre enc Tryd.prog Tryd.f5 [] false w args ∧ laidMetH Tryd.prog Rows.fnExactReadLandRow.laid w) ∧ sizedMet enc Tryd.prog Tryd.f5 (OpenSpec.ofChange Rows.fnExactReadLandSpec) false w args)
      (Rows.fnExactReadLandSpec.post enc Tryd.prog Tryd.f5 false true false false) := by
  refine returnsInHanded_of_change_and (C := Tryd.checked) (X := fun w _ => laidMetH Tryd.prog Rows.fnExactReadLandRow.laid w) (fun _ _ _ hh h => h.of_heap hh) own started (by kernel_rfl) Tryd.func5
    (ChangeSpec.witness_shaped (enc := enc) (C := Tryd.checked) (os := os) (X := fun w _ => laidMetH Tryd.prog Rows.fnExactReadLandRow.laid w) false (World.doorLaid Tryd.prog 100 os) #[.string ByteArray.empty] 8 rfl (World.shaped_of_RefB (by kernel_rfl) (by kernel_rfl)) (by kernel_rfl) (by kernel_rfl) (by kernel_rfl) (door_met os _)) ?_
  intro W base args ds gs before hval0 hW _ _ hL _
  rw [MakeChecks.laidMetH_plain _ _ _ (by kernel_rfl)] at hL
  have hval : ∀ (j : Nat) t v, Tryd.f5.params[j]? = some t → args[j]? = some v → Value.okWide Tryd.prog W .any base t v := hval0
  have hW' := hW
  obtain ⟨p, q, hA0, hV, rfl, hfz, hnd⟩ := hW
  have hA : DataW.TrodAll enc Tryd.prog W 0 (fun _ => true) true Tryd.f5.params.toList args.toList ds p := hA0
  rw [Tryd.params5] at hA hval
  obtain ⟨v0, vs0, d0, ds0, p0, q0, hargs, rfl, rfl, h0, r0⟩ := trodAll_cons hA
  obtain ⟨rfl, rfl, rfl⟩ := trodAll_nil r0
  obtain rfl : args = #[v0] := by cases args; simp_all
  obtain ⟨rfl, rfl⟩ := trodVars_none hV
  have k0 := h0
  have lt0 : ∀ x ∈ p0, x.block < W.heap.size := by obtain ⟨m, hm⟩ := k0; exact DataW.trod_lt m _ _ _ hm
  obtain ⟨s, rfl, _, _, ws⟩ := open_string Tryd.underlying9 (hval 0 9 v0 rfl rfl) h0
  have hpow := Lib.tabIs_of_head (name := "internal/strconv.uint64pow10") (k := .u64) (zs := Lib.pow10Tab) (show Tryd.prog.globalNamed "internal/strconv.uint64pow10" = some 3 by kernel_rfl) (by kernel_rfl) Tryd.underlying134 Tryd.underlying112 (by kernel_rfl) (by kernel_rfl) (laidMet.tail (laidMet.tail hL))
  obtain ⟨ahvs, shvs, hvs, _, _, _⟩ := laid_sentinel (n := "strconv.ErrSyntax") (g := 1) (ti := 90) (tp := 139) (te := 141) (ts := 9) (laidMet.tail (laidMet.tail (laidMet.tail (laidMet.tail hL)))) (by kernel_rfl) (by kernel_rfl) Tryd.underlying90 (fun u h => typeName_ptr_named (nm := "errors.errorString") (by rw [show "*" ++ "errors.errorString" = "*errors.errorString" by decide]; kernel_rfl) (by kernel_rfl) (by decide) u (by rw [show "*" ++ "errors.errorString" = "*errors.errorString" by decide]; exact h)) Tryd.underlying139 Tryd.underlying141 rfl rfl Tryd.underlying9 (by kernel_rfl) (by kernel_rfl)
  obtain ⟨ahvr, shvr, hvr, _, _, _⟩ := laid_sentinel (n := "strconv.ErrRange") (g := 2) (ti := 90) (tp := 139) (te := 141) (ts := 9) (laidMet.tail (laidMet.tail (laidMet.tail hL))) (by kernel_rfl) (by kernel_rfl) Tryd.underlying90 (fun u h => typeName_ptr_named (nm := "errors.errorString") (by rw [show "*" ++ "errors.errorString" = "*errors.errorString" by decide]; kernel_rfl) (by kernel_rfl) (by decide) u (by rw [show "*" ++ "errors.errorString" = "*errors.errorString" by decide]; exact h)) Tryd.underlying139 Tryd.underlying141 rfl rfl Tryd.underlying9 (by kernel_rfl) (by kernel_rfl)
  refine (walk s W ws hpow hvs hvr).mono fun e W' ⟨he, bel⟩ => ?_
  subst he
  exact ⟨_, rfl, _, _, _, [], _, [], hW', trodAll_mk1 (shut_bool Tryd.underlying4 _), (trodAll_cons_mk (Below.trod laidOut (by kernel_rfl) (of_decide_eq_true (by kernel_rfl)) k0 bel lt0) trodAll_mk0), rfl, bel.frame _, fun h => by cases h⟩
theorem over : Rows.fnExactReadLandRow.holds Tryd.pinned (OpenSpec.ofChange Rows.fnExactReadLandSpec) :=
  OpenClaim.holds_of_wide 5 Tryd.f5 rfl rfl rfl rfl rfl rfl rfl ⟨rfl, rfl, rfl, rfl, rfl⟩ rfl rfl rfl rfl rfl (by kernel_rfl) Tryd.func5 (by kernel_rfl)
    (of_decide_eq_true (by kernel_rfl)) (by unfold Func.isWrapper; first | (rw [if_pos (by decide +kernel)]; kernel_rfl) | (rw [if_neg (by decide +kernel)]; exact ⟨rfl, rfl⟩))
    (fun os started H enc _ => lifted os started H enc)
/-- the statement -/
theorem proved : Rows.FnExactReadLandCardSaid :=
  Claim7.holds_tied_plain_at .later [] [.data, .data, .data, .sentinel, .sentinel] true _ _
    over (fun _ h => by cases h) (by kernel_rfl) (fun _ h => by cases h) fnExactReadLand_row_tie rfl ⟨rfl, rfl⟩ (by kernel_rfl) rfl
    (fun f fn hf hfn => by
      obtain rfl : f = 5 := Option.some.inj ((show Tryd.prog.funcNamed "loop.example/g01032/laws.FnExactReadLand" = some 5 by kernel_rfl).symm.trans hf) |>.symm
      obtain rfl : fn = Tryd.f5 := (Option.some.inj (Tryd.func5.symm.trans hfn)).symm
      exact ⟨by kernel_rfl, fun j t ht => by
        rw [Tryd.params5] at ht
        have hm : t ∈ [9] := by simpa using Array.mem_of_getElem? ht
        have hall : ([9].all fun u => !Tryd.prog.wantsStandIn u) = true := by kernel_rfl
        exact (show Tryd.prog.wantsStandIn t = false by simpa using List.all_eq_true.1 hall t hm)⟩)
    (by kernel_rfl)
#print axioms proved
end Go.Proofs.YtcjfdfjimcapkaaDoor.fnExactReadLand
