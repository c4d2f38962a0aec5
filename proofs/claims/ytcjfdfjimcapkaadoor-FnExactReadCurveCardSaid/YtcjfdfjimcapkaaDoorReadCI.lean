/-
  Contract on reading a curve: the program. It holds for every text of at most 1048576 bytes, where a table and two variables of the library read as they are laid.
-/
import Derived.IntWalk
import Derived.Test.YtcjfdfjimcapkaaDoorReadC
import Derived.Test.YtcjfdfjimcapkaaDoorNums
import Derived.Test.YtcjfdfjimcapkaaDoorCtext
import Derived.Test.YtcjfdfjimcapkaaDoorCut
import Derived.Deep.RegionHeld3
namespace Go.Proofs.YtcjfdfjimcapkaaDoor
set_option linter.unusedVariables false
set_option linter.unusedSimpArgs false
open Go.RowKit

theorem nums_len (l : List UInt8) : (nums l).length ≤ l.length + 1 := by
  have := pcs_len l
  unfold nums
  split
  · simpa using this
  · simp
theorem new2 (W : World) (o1 o2 : Obj) : ((W.alloc o1).alloc o2).heap[W.heap.size + 1]? = some o2 := by simpa using heap_alloc_new (W.alloc o1) o2
theorem new_keep {W W1 w1 : World} {B K T j : Nat} {v u : Value} {xs ys : List Int} {o : Obj} (h : Own2 W B K T v xs u ys) (hg : W1.grownBy w1 v.ownBlock) (hk : W1.heap[j]? = some o) (hj : W.heap.size ≤ j) : w1.heap[j]? = some o :=
  (hg.block j (Array.getElem?_eq_some_iff.1 hk).1 (fun e => by
    have := (h.a.lt j e.symm).2
    omega)).trans hk
theorem own2_nils (W : World) {B K T : Nat} (hK : K < W.heap.size) : Own2 W B K T (.slice none 0 0) [] (.slice none 0 0) [] :=
  ⟨World.ownsRow_nil _ _ _ _, World.ownsRow_nil _ _ _ _, (fun g hg => by cases hg), (fun g hg => by cases hg), (fun g hg => by cases hg), hK⟩
theorem rest_row {B E : Nat} {w : World} {A : Option Addr} {N : List Int} (h : OwnC B E w A (ints N)) : ∃ g cur T, 0 < N.length → A = some ⟨g, 0, none⟩ ∧ B ≤ g ∧ g < E ∧ w.heap[g]? = some (.cells cur T (0, 0)) ∧ ∀ i, i < N.length → cur[i]? = some (.int .i64 (gt N i)) := by
  by_cases h0 : 0 < N.length
  · obtain ⟨g, cur, T, e, hb, hg, k, hc⟩ := h (by rw [ints_len]; exact h0)
    exact ⟨g, cur, T, fun _ => ⟨e, hb, hg, k, fun i hi => by rw [hc i (by rw [ints_len]; exact hi), ints_get N i hi]⟩⟩
  · exact ⟨0, #[], 0, fun h => absurd h h0⟩
set_option maxRecDepth 100000 in
set_option maxHeartbeats 800000 in
theorem implReadC (w : World) (l : List UInt8) (B : Nat) (t1 t2 : TypeId) (p1 p2 : Value) (hm : l.length ≤ 1048576) (hR : Rdy B t1 t2 p1 p2 w) : Calls Tryd.prog 7 #[.string ⟨l.toArray⟩] w (NewCurveB (rdL l) (rdV l) (rcB l) w) := by
  have HRD := Lib.hid hR
  clear hR
  obtain ⟨i0, hi, hz0, hz1, hz2⟩ := info_parts infoInt
  obtain ⟨N, hN⟩ : ∃ N, nums l = N := ⟨_, rfl⟩
  have HNN := Lib.hid hN
  have HNM := Lib.hid (fun (W : World) (h : Rdy B t1 t2 p1 p2 W) => (by rw [← hN]; exact implNumbers W l B t1 t2 p1 p2 hm h : Calls Tryd.prog 24 #[.string ⟨l.toArray⟩] W (NewNums N W)))
  have hnl : N.length ≤ l.length + 1 := by rw [← hN]; exact nums_len l
  clear hN
  go_enter Tryd.func7, Tryd.ntmps7
  go_wp2_with ((go_at_call 24; refine (HNM.out _ (HRD.out.below (by repeat (first | exact Below.refl _ _ | assumption | apply bl_alloc | apply bl_drewN | apply Below.drew | (refine bl_set ?_ (by first | exact Nat.le_refl _ | (simp; done) | (simp; omega)) _) | (refine bl_trans ?_ (by assumption)))))).mono ?_; rintro e w2 ⟨A, c0, rfl, hc0, hn0, hown, hb2⟩; have kr2 : w2.heap[w.heap.size]? = some (.cells #[.slice none 0 0, .slice none 0 0] 24 (0, 0)) := keep_blk (hb := hb2) (h := by repeat (first | (refine blk_new ?_; (first | rfl | (simp; done) | (simp; omega))) | refine blk_drewN ?_ | refine blk_old ?_)); have kc2 : w2.heap[w.heap.size + 1]? = some (.cells #[.slice none 0 0, .slice none 0 0] 24 (0, 0)) := keep_blk (hb := hb2) (h := by repeat (first | (refine blk_new ?_; (first | rfl | (simp; done) | (simp; omega))) | refine blk_drewN ?_ | refine blk_old ?_))))
  obtain ⟨g, cur, T, hgr⟩ := rest_row hown
  have HGR := Lib.hid hgr
  have zb2 := hb2.size
  simp at zb2
  clear hgr
  go_loopg [5] N.length (fun m v wr => ∃ k A' c', 2 * k ≤ N.length ∧ m = N.length - 2 * k ∧ v = .slice A' (N.length - 2 * k) c' ∧ N.length - 2 * k ≤ c' ∧ (0 < N.length - 2 * k → A' = some ⟨g, 2 * k, none⟩) ∧ (∃ A1 c1 A2 c2, wr.heap[(w.heap.size + 1)]? = some (.cells #[.slice A1 k c1, .slice A2 k c2] 24 (0, 0)) ∧ Own2 wr w2.heap.size (w.heap.size + 1) 2 (.slice A1 k c1) (eT N k) (.slice A2 k c2) (oT N k)) ∧ wr.heap[w.heap.size]? = some (.cells #[.slice none 0 0, .slice none 0 0] 24 (0, 0)) ∧ (0 < N.length → wr.heap[g]? = some (.cells cur T (0, 0))) ∧ Below w.heap.size w wr ∧ w2.heap.size ≤ wr.heap.size)
  case atStart => exact ⟨0, A, c0, by omega, by omega, rfl, hc0, fun h => (HGR.out (by omega)).1, ⟨none, 0, none, 0, kc2, own2_nils _ (by omega)⟩, kr2, fun h => (HGR.out h).2.2.2.1, by repeat (first | exact Below.refl _ _ | assumption | apply bl_alloc | apply bl_drewN | apply Below.drew | (refine bl_set ?_ (by first | exact Nat.le_refl _ | (simp; done) | (simp; omega)) _) | (refine bl_trans ?_ (by assumption))), Nat.le_refl _⟩
  case round =>
    obtain ⟨k, A', c', hk, hgk, rfl, hc', hA', ⟨A1, c1, A2, c2, kc3, hO3⟩, kr3, kx3, hb, hw2⟩ := hrel
    have HGK := Lib.hid hgk
    have hlc := blk_lt kc3
    have hO3 := Lib.hid hO3
    have kc3 := Lib.hid kc3
    have kr3 := Lib.hid kr3
    have kx3 := Lib.hid kx3
    clear hgk
    by_cases hlt : 2 ≤ N.length - 2 * k
    · have kg := kx3.out (by omega)
      have hgl := blk_lt kg
      obtain rfl := hA' (by omega)
      obtain ⟨X, hX⟩ : ∃ X, gt N (2 * k) = X := ⟨_, rfl⟩
      obtain ⟨Y, hY⟩ : ∃ Y, gt N (2 * k + 1) = Y := ⟨_, rfl⟩
      have hcc := (HGR.out (by omega)).2.2.2.2
      have hgw := (HGR.out (by omega)).2.2.1
      have hgb := (HGR.out (by omega)).2.1
      simp at hgb
      have g1 : wr.cell? ⟨g, 2 * k, none⟩ = some (.int .i64 X) := by rw [cell_of_row wr g (2 * k) _ _ (0, 0) kg, hcc _ (by omega), hX]
      have g2 : wr.cell? ⟨g, 2 * k + 1, none⟩ = some (.int .i64 Y) := by rw [cell_of_row wr g (2 * k + 1) _ _ (0, 0) kg, hcc _ (by omega), hY]
      obtain ⟨x0, x1, xf0, xf1, xl⟩ := cells_two kc3.out (Below.refl _ _)
      have j0 : 0 < N.length - 2 * k := by omega
      have j1 : (1 : Int) < ((N.length - 2 * k : Nat) : Int) := by omega
      have HLN := Lib.hid (eT_len N k)
      have HRN := Lib.hid (oT_len N k)
      have HLS := Lib.hid (show eT N (k + 1) = eT N k ++ [X] by rw [eT_next, hX])
      have HRS := Lib.hid (show oT N (k + 1) = oT N k ++ [Y] by rw [oT_next, hY])
      clear hA'
      go_wp2
      refine region_cutH (S := fun w' => w'.cell? ⟨(w.heap.size + 1), 0, none⟩ = some (.slice A1 k c1) ∧ w'.cell? ⟨(w.heap.size + 1), 1, none⟩ = some (.slice A2 k c2) ∧ w'.cell? ⟨g, 2 * k, none⟩ = some (.int .i64 X) ∧ w'.cell? ⟨g, 2 * k + 1, none⟩ = some (.int .i64 Y)) 15 (by kernel_rfl) (by kernel_rfl) ?hS1 (fun hHeld => ?hR1)
      case hS1 => (((try dsimp only); refine ⟨?_, ?_, ?_, ?_⟩ <;> (repeat (first | with_reducible assumption | with_reducible refine kc_drew ?_ | with_reducible refine kc_drewN ?_ | with_reducible refine kc_alloc ?_ | with_reducible refine kc_set ?_ (by first | omega | (simp; done) | (simp; omega))))))
      simp only [List.take_succ_cons, List.take_zero, List.drop_succ_cons, List.drop_zero]
      refine wpAnyH_take (i := 0) (v := ?hv2) rfl (by kernel_rfl) (by kernel_rfl) (by kernel_rfl) (fun _ _ _ h => h) (Or.inl ⟨by rfl, ?hy2⟩) (by assumption) ?hR2
      case hy2 => (intro wq hSw; (try dsimp only at hSw); go_simp; (try with_reducible rfl))
      simp only [Act.put, List.setIfInBounds_toArray, List.set_cons_zero, List.set_cons_succ]
      refine wpAnyH_take (i := 1) (v := ?hv3) rfl (by kernel_rfl) (by kernel_rfl) (by kernel_rfl) (fun _ _ _ h => h) (Or.inl ⟨by rfl, ?hy3⟩) (by assumption) ?hR3
      case hy3 => (intro wq hSw; (try dsimp only at hSw); go_simp; (try with_reducible rfl))
      simp only [Act.put, List.setIfInBounds_toArray, List.set_cons_zero, List.set_cons_succ]
      refine wpAnyH_take (i := 2) (v := ?hv4) rfl (by kernel_rfl) (by kernel_rfl) (by kernel_rfl) (fun _ _ _ h => h) (Or.inl ⟨by rfl, ?hy4⟩) (by assumption) ?hR4
      case hy4 => (intro wq hSw; (try dsimp only at hSw); go_simp; (try with_reducible rfl))
      simp only [Act.put, List.setIfInBounds_toArray, List.set_cons_zero, List.set_cons_succ]
      refine wpAnyH_take (i := 3) (v := ?hv5) rfl (by kernel_rfl) (by kernel_rfl) (by kernel_rfl) (fun _ _ _ h => h) (Or.inl ⟨by rfl, ?hy5⟩) (by assumption) ?hR5
      case hy5 => (intro wq hSw; (try dsimp only at hSw); go_simp; (try with_reducible rfl))
      simp only [Act.put, List.setIfInBounds_toArray, List.set_cons_zero, List.set_cons_succ]
      refine wpAnyH_take (i := 4) (v := ?hv6) rfl (by kernel_rfl) (by kernel_rfl) (by kernel_rfl) (fun _ _ _ h => h) (Or.inl ⟨by rfl, ?hy6⟩) (by assumption) ?hR6
      case hy6 => (intro wq hSw; (try dsimp only at hSw); go_simp; (try with_reducible rfl))
      simp only [Act.put, List.setIfInBounds_toArray, List.set_cons_zero, List.set_cons_succ]
      refine wpAnyH_take (i := 7) (v := ?hv7) rfl (by kernel_rfl) (by kernel_rfl) (by kernel_rfl) (fun _ _ _ h => h) (Or.inl ⟨by rfl, ?hy7⟩) (by assumption) ?hR7
      case hy7 => (intro wq hSw; (try dsimp only at hSw); go_simp; (try with_reducible rfl))
      simp only [Act.put, List.setIfInBounds_toArray, List.set_cons_zero, List.set_cons_succ]
      refine wpAnyH_take (i := 8) (v := ?hv8) rfl (by kernel_rfl) (by kernel_rfl) (by kernel_rfl) (fun _ _ _ h => h) (Or.inl ⟨by rfl, ?hy8⟩) (by assumption) ?hR8
      case hy8 => (intro wq hSw; (try dsimp only at hSw); go_simp; (try with_reducible rfl))
      simp only [Act.put, List.setIfInBounds_toArray, List.set_cons_zero, List.set_cons_succ]
      refine wpAnyH_take (i := 9) (v := ?hv9) rfl (by kernel_rfl) (by kernel_rfl) (by kernel_rfl) (fun _ _ _ h => h) (Or.inl ⟨by rfl, ?hy9⟩) (by assumption) ?hR9
      case hy9 => (intro wq hSw; (try dsimp only at hSw); go_simp; (try with_reducible rfl))
      simp only [Act.put, List.setIfInBounds_toArray, List.set_cons_zero, List.set_cons_succ]
      refine wpAnyH_take (i := 10) (v := ?hv10) rfl (by kernel_rfl) (by kernel_rfl) (by kernel_rfl) (fun _ _ _ h => h) (Or.inl ⟨by rfl, ?hy10⟩) (by assumption) ?hR10
      case hy10 => (intro wq hSw; (try dsimp only at hSw); go_simp; (try with_reducible rfl))
      simp only [Act.put, List.setIfInBounds_toArray, List.set_cons_zero, List.set_cons_succ]
      refine wpAnyH_take (i := 11) (v := ?hv11) rfl (by kernel_rfl) (by kernel_rfl) (by kernel_rfl) (fun _ _ _ h => h) (Or.inl ⟨by rfl, ?hy11⟩) (by assumption) ?hR11
      case hy11 => (intro wq hSw; (try dsimp only at hSw); go_simp; (try with_reducible rfl))
      simp only [Act.put, List.setIfInBounds_toArray, List.set_cons_zero, List.set_cons_succ]
      refine wpAnyH_ready (rs := [5, 12]) (by kernel_rfl) (by simp) (AllReadyH.cons rfl (fun K hK => ?hB12_0) (AllReadyH.cons rfl (fun K hK => ?hB12_1) AllReadyH.nil))
      case hB12_0 =>
        go_simp
        clear hHeld
        refine hK.out _ _ ?hS13 (fun hHeld => ?hT13)
        case hS13 => (((try dsimp only); refine ⟨?_, ?_, ?_, ?_⟩ <;> (repeat (first | with_reducible assumption | with_reducible refine kc_drew ?_ | with_reducible refine kc_drewN ?_ | with_reducible refine kc_alloc ?_ | with_reducible refine kc_set ?_ (by first | omega | (simp; done) | (simp; omega))))))
        clear hK K
        (try simp only [Act.put, List.setIfInBounds_toArray, List.set_cons_zero, List.set_cons_succ])
        refine wpAnyH_ready (rs := [6, 12]) (by kernel_rfl) (by simp) (AllReadyH.cons rfl (fun K hK => ?hB14_0) (AllReadyH.cons rfl (fun K hK => ?hB14_1) AllReadyH.nil))
        case hB14_0 =>
          have zz := ((bl_alloc hb.drew (.cells #[.int .i64 X] 2))).size
          (try simp at zz)
          refine step_append_lies _ (by rfl) _ _ _ (by rfl) w2.heap.size 2 i0 (.int .i64 0) 1 8 Tryd.underlying22 hi hz0 hz1 hz2 rfl (by decide) (.slice A1 k c1) k (ints (eT N k)) (by rfl) (((hO3.out.drew.alloc (.cells #[.int .i64 X] 2))).an HLN.out) ⟨wr.heap.size, 0, none⟩ 1 1 [.int .i64 X] (by rfl) (by rfl) (app_news (heap_alloc_new wr.drew _)) (app_one _) (by decide) (by unfold maxLen; omega) (by omega) (by first | omega | rfl | (simp; done) | (simp; omega)) (wr.heap.size + 1) (by first | omega | rfl | (simp; done) | (simp; omega)) ?_
          intro g7 cap7 w7 hown7 hgrow7 hat7 hlt7
          have kc7 := Lib.hid (((hO3.out.drew.alloc (.cells #[.int .i64 X] 2))).keepL hgrow7 ((blk_old kc3.out)) (.inl rfl))
          have kr7 := Lib.hid (((hO3.out.drew.alloc (.cells #[.int .i64 X] 2))).keepL hgrow7 ((blk_old kr3.out)) (.inr (by omega)))
          have kx7 := Lib.hid (((hO3.out.drew.alloc (.cells #[.int .i64 X] 2))).keepL hgrow7 ((blk_old kg)) (.inr (by omega)))
          have O7 := Lib.hid (((hO3.out.drew.alloc (.cells #[.int .i64 X] 2))).leftN HLN.out hown7 hgrow7 hat7 (by first | omega | rfl | (simp; done) | (simp; omega)) HLS.out)
          have R7 := Lib.hid (((hO3.out.drew.alloc (.cells #[.int .i64 X] 2))).belowL ((bl_alloc hb.drew (.cells #[.int .i64 X] 2))) (by omega) hgrow7)
          have z7 := hgrow7.size
          (try simp at z7)

          obtain ⟨x0_7, x1_7, xf0_7, xf1_7, xl_7⟩ := cells_two kc7.out (Below.refl _ _)
          have g1_7 : w7.cell? ⟨g, 2 * k, none⟩ = some (.int .i64 X) := by rw [cell_of_row w7 g (2 * k) _ _ (0, 0) kx7.out, hcc _ (by omega), hX]
          have g2_7 : w7.cell? ⟨g, 2 * k + 1, none⟩ = some (.int .i64 Y) := by rw [cell_of_row w7 g (2 * k + 1) _ _ (0, 0) kx7.out, hcc _ (by omega), hY]
          clear hown7 hgrow7 hat7 hlt7
          clear hHeld
          refine hK.out _ _ ?hS15 (fun hHeld => ?hT15)
          case hS15 => (((try dsimp only); refine ⟨?_, ?_, ?_, ?_⟩ <;> (repeat (first | with_reducible assumption | with_reducible refine kc_drew ?_ | with_reducible refine kc_drewN ?_ | with_reducible refine kc_alloc ?_ | with_reducible refine kc_set ?_ (by first | omega | (simp; done) | (simp; omega))))))
          clear hK K
          (try simp only [Act.put, List.setIfInBounds_toArray, List.set_cons_zero, List.set_cons_succ])
          refine wpAnyH_take (i := 14) (v := ?hv16) rfl (by kernel_rfl) (by kernel_rfl) (by kernel_rfl) (fun _ _ _ h => h) (Or.inl ⟨by rfl, ?hy16⟩) (by assumption) ?hR16
          case hy16 => (intro wq hSw; (try dsimp only at hSw); go_simp; (try with_reducible rfl))
          simp only [Act.put, List.setIfInBounds_toArray, List.set_cons_zero, List.set_cons_succ]
          refine wpAnyH_ready (rs := [12]) (by kernel_rfl) (by simp) (AllReadyH.cons rfl (fun K hK => ?hR17) AllReadyH.nil)
          go_simp
          clear hHeld
          refine hK.out _ _ ?hS18 (fun hHeld => ?hT18)
          case hS18 => (((try dsimp only); refine ⟨?_, ?_, ?_, ?_⟩ <;> (repeat (first | with_reducible assumption | with_reducible refine kc_drew ?_ | with_reducible refine kc_drewN ?_ | with_reducible refine kc_alloc ?_ | with_reducible refine kc_set ?_ (by first | omega | (simp; done) | (simp; omega))))))
          clear hK K
          (try simp only [Act.put, List.setIfInBounds_toArray, List.set_cons_zero, List.set_cons_succ])
          refine wpAnyH_ready (rs := [13]) (by kernel_rfl) (by simp) (AllReadyH.cons rfl (fun K hK => ?hR19) AllReadyH.nil)
          have zz := ((bl_alloc R7.out (.cells #[.int .i64 Y] 2))).size
          (try simp at zz)
          refine step_append_lies _ (by rfl) _ _ _ (by rfl) w2.heap.size 2 i0 (.int .i64 0) 1 8 Tryd.underlying22 hi hz0 hz1 hz2 rfl (by decide) (.slice A2 k c2) k (ints (oT N k)) (by rfl) (((O7.out.alloc (.cells #[.int .i64 Y] 2))).bn HRN.out) ⟨w7.heap.size, 0, none⟩ 1 1 [.int .i64 Y] (by rfl) (by rfl) (app_news (heap_alloc_new w7 _)) (app_one _) (by decide) (by unfold maxLen; omega) (by omega) (by first | omega | rfl | (simp; done) | (simp; omega)) (w7.heap.size + 1) (by first | omega | rfl | (simp; done) | (simp; omega)) ?_
          intro g9 cap9 w9 hown9 hgrow9 hat9 hlt9
          have kc9 := Lib.hid (((O7.out.alloc (.cells #[.int .i64 Y] 2))).keepR hgrow9 ((blk_old kc7.out)) (.inl rfl))
          have kr9 := Lib.hid (((O7.out.alloc (.cells #[.int .i64 Y] 2))).keepR hgrow9 ((blk_old kr7.out)) (.inr (by omega)))
          have kx9 := Lib.hid (((O7.out.alloc (.cells #[.int .i64 Y] 2))).keepR hgrow9 ((blk_old kx7.out)) (.inr (by omega)))
          have O9 := Lib.hid (((O7.out.alloc (.cells #[.int .i64 Y] 2))).rightN HRN.out hown9 hgrow9 hat9 (by first | omega | rfl | (simp; done) | (simp; omega)) HRS.out)
          have R9 := Lib.hid (((O7.out.alloc (.cells #[.int .i64 Y] 2))).belowR ((bl_alloc R7.out (.cells #[.int .i64 Y] 2))) (by omega) hgrow9)
          have z9 := hgrow9.size
          (try simp at z9)

          obtain ⟨x0_9, x1_9, xf0_9, xf1_9, xl_9⟩ := cells_two kc9.out (Below.refl _ _)
          have g1_9 : w9.cell? ⟨g, 2 * k, none⟩ = some (.int .i64 X) := by rw [cell_of_row w9 g (2 * k) _ _ (0, 0) kx9.out, hcc _ (by omega), hX]
          have g2_9 : w9.cell? ⟨g, 2 * k + 1, none⟩ = some (.int .i64 Y) := by rw [cell_of_row w9 g (2 * k + 1) _ _ (0, 0) kx9.out, hcc _ (by omega), hY]
          clear hown9 hgrow9 hat9 hlt9
          clear hHeld
          refine hK.out _ _ ?hS20 (fun hHeld => ?hT20)
          case hS20 => (((try dsimp only); refine ⟨?_, ?_, ?_, ?_⟩ <;> (repeat (first | with_reducible assumption | with_reducible refine kc_drew ?_ | with_reducible refine kc_drewN ?_ | with_reducible refine kc_alloc ?_ | with_reducible refine kc_set ?_ (by first | omega | (simp; done) | (simp; omega))))))
          clear hK K
          (try simp only [Act.put, List.setIfInBounds_toArray, List.set_cons_zero, List.set_cons_succ])
          refine wpAnyH_done (by kernel_rfl) ?_ _
          show wpList _ _ _ _ _ _
          clear hHeld
          have K8 := Lib.hid (heap_setCell_same _ _ 0 _ _ (.slice (some ⟨g7, 0, none⟩) (k + 1) cap7) kc9.out)
          have K9 := Lib.hid (heap_setCell_same _ _ 1 _ _ (.slice (some ⟨g9, 0, none⟩) (k + 1) cap9) K8.out)
          have O9b := Lib.hid ((O9.out.set 0 (.slice (some ⟨g7, 0, none⟩) (k + 1) cap7)).set 1 (.slice (some ⟨g9, 0, none⟩) (k + 1) cap9))
          have kr9b := Lib.hid (kb_set (p := ⟨(w.heap.size + 1), 1, none⟩) (u := .slice (some ⟨g9, 0, none⟩) (k + 1) cap9) (kb_set (p := ⟨(w.heap.size + 1), 0, none⟩) (u := .slice (some ⟨g7, 0, none⟩) (k + 1) cap7) kr9.out (by first | omega | (simp; done) | (simp; omega))) (by first | omega | (simp; done) | (simp; omega)))
          have kx9b := Lib.hid (kb_set (p := ⟨(w.heap.size + 1), 1, none⟩) (u := .slice (some ⟨g9, 0, none⟩) (k + 1) cap9) (kb_set (p := ⟨(w.heap.size + 1), 0, none⟩) (u := .slice (some ⟨g7, 0, none⟩) (k + 1) cap7) kx9.out (by first | omega | (simp; done) | (simp; omega))) (by first | omega | (simp; done) | (simp; omega)))
          have R9b := Lib.hid (bl_set (p := ⟨(w.heap.size + 1), 1, none⟩) (bl_set (p := ⟨(w.heap.size + 1), 0, none⟩) R9.out (by first | omega | (simp; done) | (simp; omega)) (.slice (some ⟨g7, 0, none⟩) (k + 1) cap7)) (by first | omega | (simp; done) | (simp; omega)) (.slice (some ⟨g9, 0, none⟩) (k + 1) cap9))
          by_cases hc2 : c' = 2
          · obtain rfl := hc2
            go_wp2
            go_roundg (N.length - 2 * (k + 1))
            case measure => rw [HGK.out]; omega
            case rel => exact ⟨k + 1, some ⟨g, 2 * k, none⟩, 0, by omega, rfl, by rw [show N.length - 2 * (k + 1) = 0 by omega], by omega, fun h => absurd h (by omega), ⟨_, _, _, _, K9.out, O9b.out⟩, kr9b.out, fun _ => kx9b.out, R9b.out, by simp; omega⟩
          · go_wp2
            go_roundg (N.length - 2 * (k + 1))
            case measure => rw [HGK.out]; omega
            case rel => exact ⟨k + 1, some ⟨g, 2 * (k + 1), none⟩, c' - 2, by omega, rfl, by first | rfl | (simp [Nat.mul_add]; omega), by omega, fun _ => rfl, ⟨_, _, _, _, K9.out, O9b.out⟩, kr9b.out, fun _ => kx9b.out, R9b.out, by simp; omega⟩
        case hB14_1 =>
          go_simp
          clear hHeld
          refine hK.out _ _ ?hS22 (fun hHeld => ?hT22)
          case hS22 => (((try dsimp only); refine ⟨?_, ?_, ?_, ?_⟩ <;> (repeat (first | with_reducible assumption | with_reducible refine kc_drew ?_ | with_reducible refine kc_drewN ?_ | with_reducible refine kc_alloc ?_ | with_reducible refine kc_set ?_ (by first | omega | (simp; done) | (simp; omega))))))
          clear hK K
          (try simp only [Act.put, List.setIfInBounds_toArray, List.set_cons_zero, List.set_cons_succ])
          refine wpAnyH_ready (rs := [6]) (by kernel_rfl) (by simp) (AllReadyH.cons rfl (fun K hK => ?hR23) AllReadyH.nil)
          have zz := ((bl_alloc (bl_alloc hb.drew (.cells #[.int .i64 X] 2)) (.cells #[.int .i64 Y] 2))).size
          (try simp at zz)
          refine step_append_lies _ (by rfl) _ _ _ (by rfl) w2.heap.size 2 i0 (.int .i64 0) 1 8 Tryd.underlying22 hi hz0 hz1 hz2 rfl (by decide) (.slice A1 k c1) k (ints (eT N k)) (by rfl) ((((hO3.out.drew.alloc (.cells #[.int .i64 X] 2)).alloc (.cells #[.int .i64 Y] 2))).an HLN.out) ⟨wr.heap.size, 0, none⟩ 1 1 [.int .i64 X] (by rfl) (by rfl) (app_news (blk_old (heap_alloc_new wr.drew _))) (app_one _) (by decide) (by unfold maxLen; omega) (by omega) (by first | omega | rfl | (simp; done) | (simp; omega)) (wr.heap.size + 1 + 1) (by first | omega | rfl | (simp; done) | (simp; omega)) ?_
          intro g7 cap7 w7 hown7 hgrow7 hat7 hlt7
          have kc7 := Lib.hid ((((hO3.out.drew.alloc (.cells #[.int .i64 X] 2)).alloc (.cells #[.int .i64 Y] 2))).keepL hgrow7 ((blk_old (blk_old kc3.out))) (.inl rfl))
          have kr7 := Lib.hid ((((hO3.out.drew.alloc (.cells #[.int .i64 X] 2)).alloc (.cells #[.int .i64 Y] 2))).keepL hgrow7 ((blk_old (blk_old kr3.out))) (.inr (by omega)))
          have kx7 := Lib.hid ((((hO3.out.drew.alloc (.cells #[.int .i64 X] 2)).alloc (.cells #[.int .i64 Y] 2))).keepL hgrow7 ((blk_old (blk_old kg))) (.inr (by omega)))
          have O7 := Lib.hid ((((hO3.out.drew.alloc (.cells #[.int .i64 X] 2)).alloc (.cells #[.int .i64 Y] 2))).leftN HLN.out hown7 hgrow7 hat7 (by first | omega | rfl | (simp; done) | (simp; omega)) HLS.out)
          have R7 := Lib.hid ((((hO3.out.drew.alloc (.cells #[.int .i64 X] 2)).alloc (.cells #[.int .i64 Y] 2))).belowL ((bl_alloc (bl_alloc hb.drew (.cells #[.int .i64 X] 2)) (.cells #[.int .i64 Y] 2))) (by omega) hgrow7)
          have z7 := hgrow7.size
          (try simp at z7)
          have NY := Lib.hid (new_keep hO3.out hgrow7 (o := (.cells #[.int .i64 Y] 2)) (j := wr.heap.size + 1) (new2 wr _ _) (by omega))
          obtain ⟨x0_7, x1_7, xf0_7, xf1_7, xl_7⟩ := cells_two kc7.out (Below.refl _ _)
          have g1_7 : w7.cell? ⟨g, 2 * k, none⟩ = some (.int .i64 X) := by rw [cell_of_row w7 g (2 * k) _ _ (0, 0) kx7.out, hcc _ (by omega), hX]
          have g2_7 : w7.cell? ⟨g, 2 * k + 1, none⟩ = some (.int .i64 Y) := by rw [cell_of_row w7 g (2 * k + 1) _ _ (0, 0) kx7.out, hcc _ (by omega), hY]
          clear hown7 hgrow7 hat7 hlt7
          clear hHeld
          refine hK.out _ _ ?hS24 (fun hHeld => ?hT24)
          case hS24 => (((try dsimp only); refine ⟨?_, ?_, ?_, ?_⟩ <;> (repeat (first | with_reducible assumption | with_reducible refine kc_drew ?_ | with_reducible refine kc_drewN ?_ | with_reducible refine kc_alloc ?_ | with_reducible refine kc_set ?_ (by first | omega | (simp; done) | (simp; omega))))))
          clear hK K
          (try simp only [Act.put, List.setIfInBounds_toArray, List.set_cons_zero, List.set_cons_succ])
          refine wpAnyH_take (i := 14) (v := ?hv25) rfl (by kernel_rfl) (by kernel_rfl) (by kernel_rfl) (fun _ _ _ h => h) (Or.inl ⟨by rfl, ?hy25⟩) (by assumption) ?hR25
          case hy25 => (intro wq hSw; (try dsimp only at hSw); go_simp; (try with_reducible rfl))
          simp only [Act.put, List.setIfInBounds_toArray, List.set_cons_zero, List.set_cons_succ]
          refine wpAnyH_ready (rs := [13]) (by kernel_rfl) (by simp) (AllReadyH.cons rfl (fun K hK => ?hR26) AllReadyH.nil)
          have zz := (R7.out).size
          (try simp at zz)
          refine step_append_lies _ (by rfl) _ _ _ (by rfl) w2.heap.size 2 i0 (.int .i64 0) 1 8 Tryd.underlying22 hi hz0 hz1 hz2 rfl (by decide) (.slice A2 k c2) k (ints (oT N k)) (by rfl) ((O7.out).bn HRN.out) ⟨wr.heap.size + 1, 0, none⟩ 1 1 [.int .i64 Y] (by rfl) (by rfl) (app_news NY.out) (app_one _) (by decide) (by unfold maxLen; omega) (by omega) (by first | omega | rfl | (simp; done) | (simp; omega)) (w7.heap.size) (by first | omega | rfl | (simp; done) | (simp; omega)) ?_
          intro g9 cap9 w9 hown9 hgrow9 hat9 hlt9
          have kc9 := Lib.hid ((O7.out).keepR hgrow9 (kc7.out) (.inl rfl))
          have kr9 := Lib.hid ((O7.out).keepR hgrow9 (kr7.out) (.inr (by omega)))
          have kx9 := Lib.hid ((O7.out).keepR hgrow9 (kx7.out) (.inr (by omega)))
          have O9 := Lib.hid ((O7.out).rightN HRN.out hown9 hgrow9 hat9 (by first | omega | rfl | (simp; done) | (simp; omega)) HRS.out)
          have R9 := Lib.hid ((O7.out).belowR (R7.out) (by omega) hgrow9)
          have z9 := hgrow9.size
          (try simp at z9)

          obtain ⟨x0_9, x1_9, xf0_9, xf1_9, xl_9⟩ := cells_two kc9.out (Below.refl _ _)
          have g1_9 : w9.cell? ⟨g, 2 * k, none⟩ = some (.int .i64 X) := by rw [cell_of_row w9 g (2 * k) _ _ (0, 0) kx9.out, hcc _ (by omega), hX]
          have g2_9 : w9.cell? ⟨g, 2 * k + 1, none⟩ = some (.int .i64 Y) := by rw [cell_of_row w9 g (2 * k + 1) _ _ (0, 0) kx9.out, hcc _ (by omega), hY]
          clear hown9 hgrow9 hat9 hlt9
          clear hHeld
          refine hK.out _ _ ?hS27 (fun hHeld => ?hT27)
          case hS27 => (((try dsimp only); refine ⟨?_, ?_, ?_, ?_⟩ <;> (repeat (first | with_reducible assumption | with_reducible refine kc_drew ?_ | with_reducible refine kc_drewN ?_ | with_reducible refine kc_alloc ?_ | with_reducible refine kc_set ?_ (by first | omega | (simp; done) | (simp; omega))))))
          clear hK K
          (try simp only [Act.put, List.setIfInBounds_toArray, List.set_cons_zero, List.set_cons_succ])
          refine wpAnyH_done (by kernel_rfl) ?_ _
          show wpList _ _ _ _ _ _
          clear hHeld
          have K8 := Lib.hid (heap_setCell_same _ _ 0 _ _ (.slice (some ⟨g7, 0, none⟩) (k + 1) cap7) kc9.out)
          have K9 := Lib.hid (heap_setCell_same _ _ 1 _ _ (.slice (some ⟨g9, 0, none⟩) (k + 1) cap9) K8.out)
          have O9b := Lib.hid ((O9.out.set 0 (.slice (some ⟨g7, 0, none⟩) (k + 1) cap7)).set 1 (.slice (some ⟨g9, 0, none⟩) (k + 1) cap9))
          have kr9b := Lib.hid (kb_set (p := ⟨(w.heap.size + 1), 1, none⟩) (u := .slice (some ⟨g9, 0, none⟩) (k + 1) cap9) (kb_set (p := ⟨(w.heap.size + 1), 0, none⟩) (u := .slice (some ⟨g7, 0, none⟩) (k + 1) cap7) kr9.out (by first | omega | (simp; done) | (simp; omega))) (by first | omega | (simp; done) | (simp; omega)))
          have kx9b := Lib.hid (kb_set (p := ⟨(w.heap.size + 1), 1, none⟩) (u := .slice (some ⟨g9, 0, none⟩) (k + 1) cap9) (kb_set (p := ⟨(w.heap.size + 1), 0, none⟩) (u := .slice (some ⟨g7, 0, none⟩) (k + 1) cap7) kx9.out (by first | omega | (simp; done) | (simp; omega))) (by first | omega | (simp; done) | (simp; omega)))
          have R9b := Lib.hid (bl_set (p := ⟨(w.heap.size + 1), 1, none⟩) (bl_set (p := ⟨(w.heap.size + 1), 0, none⟩) R9.out (by first | omega | (simp; done) | (simp; omega)) (.slice (some ⟨g7, 0, none⟩) (k + 1) cap7)) (by first | omega | (simp; done) | (simp; omega)) (.slice (some ⟨g9, 0, none⟩) (k + 1) cap9))
          by_cases hc2 : c' = 2
          · obtain rfl := hc2
            go_wp2
            go_roundg (N.length - 2 * (k + 1))
            case measure => rw [HGK.out]; omega
            case rel => exact ⟨k + 1, some ⟨g, 2 * k, none⟩, 0, by omega, rfl, by rw [show N.length - 2 * (k + 1) = 0 by omega], by omega, fun h => absurd h (by omega), ⟨_, _, _, _, K9.out, O9b.out⟩, kr9b.out, fun _ => kx9b.out, R9b.out, by simp; omega⟩
          · go_wp2
            go_roundg (N.length - 2 * (k + 1))
            case measure => rw [HGK.out]; omega
            case rel => exact ⟨k + 1, some ⟨g, 2 * (k + 1), none⟩, c' - 2, by omega, rfl, by first | rfl | (simp [Nat.mul_add]; omega), by omega, fun _ => rfl, ⟨_, _, _, _, K9.out, O9b.out⟩, kr9b.out, fun _ => kx9b.out, R9b.out, by simp; omega⟩
      case hB12_1 =>
        go_simp
        clear hHeld
        refine hK.out _ _ ?hS29 (fun hHeld => ?hT29)
        case hS29 => (((try dsimp only); refine ⟨?_, ?_, ?_, ?_⟩ <;> (repeat (first | with_reducible assumption | with_reducible refine kc_drew ?_ | with_reducible refine kc_drewN ?_ | with_reducible refine kc_alloc ?_ | with_reducible refine kc_set ?_ (by first | omega | (simp; done) | (simp; omega))))))
        clear hK K
        (try simp only [Act.put, List.setIfInBounds_toArray, List.set_cons_zero, List.set_cons_succ])
        refine wpAnyH_ready (rs := [5]) (by kernel_rfl) (by simp) (AllReadyH.cons rfl (fun K hK => ?hR30) AllReadyH.nil)
        go_simp
        clear hHeld
        refine hK.out _ _ ?hS31 (fun hHeld => ?hT31)
        case hS31 => (((try dsimp only); refine ⟨?_, ?_, ?_, ?_⟩ <;> (repeat (first | with_reducible assumption | with_reducible refine kc_drew ?_ | with_reducible refine kc_drewN ?_ | with_reducible refine kc_alloc ?_ | with_reducible refine kc_set ?_ (by first | omega | (simp; done) | (simp; omega))))))
        clear hK K
        (try simp only [Act.put, List.setIfInBounds_toArray, List.set_cons_zero, List.set_cons_succ])
        refine wpAnyH_ready (rs := [6]) (by kernel_rfl) (by simp) (AllReadyH.cons rfl (fun K hK => ?hR32) AllReadyH.nil)
        have zz := ((bl_alloc (bl_alloc hb.drew (.cells #[.int .i64 Y] 2)) (.cells #[.int .i64 X] 2))).size
        (try simp at zz)
        refine step_append_lies _ (by rfl) _ _ _ (by rfl) w2.heap.size 2 i0 (.int .i64 0) 1 8 Tryd.underlying22 hi hz0 hz1 hz2 rfl (by decide) (.slice A1 k c1) k (ints (eT N k)) (by rfl) ((((hO3.out.drew.alloc (.cells #[.int .i64 Y] 2)).alloc (.cells #[.int .i64 X] 2))).an HLN.out) ⟨wr.heap.size + 1, 0, none⟩ 1 1 [.int .i64 X] (by rfl) (by rfl) (app_news (new2 wr _ _)) (app_one _) (by decide) (by unfold maxLen; omega) (by omega) (by first | omega | rfl | (simp; done) | (simp; omega)) (wr.heap.size + 1 + 1) (by first | omega | rfl | (simp; done) | (simp; omega)) ?_
        intro g7 cap7 w7 hown7 hgrow7 hat7 hlt7
        have kc7 := Lib.hid ((((hO3.out.drew.alloc (.cells #[.int .i64 Y] 2)).alloc (.cells #[.int .i64 X] 2))).keepL hgrow7 ((blk_old (blk_old kc3.out))) (.inl rfl))
        have kr7 := Lib.hid ((((hO3.out.drew.alloc (.cells #[.int .i64 Y] 2)).alloc (.cells #[.int .i64 X] 2))).keepL hgrow7 ((blk_old (blk_old kr3.out))) (.inr (by omega)))
        have kx7 := Lib.hid ((((hO3.out.drew.alloc (.cells #[.int .i64 Y] 2)).alloc (.cells #[.int .i64 X] 2))).keepL hgrow7 ((blk_old (blk_old kg))) (.inr (by omega)))
        have O7 := Lib.hid ((((hO3.out.drew.alloc (.cells #[.int .i64 Y] 2)).alloc (.cells #[.int .i64 X] 2))).leftN HLN.out hown7 hgrow7 hat7 (by first | omega | rfl | (simp; done) | (simp; omega)) HLS.out)
        have R7 := Lib.hid ((((hO3.out.drew.alloc (.cells #[.int .i64 Y] 2)).alloc (.cells #[.int .i64 X] 2))).belowL ((bl_alloc (bl_alloc hb.drew (.cells #[.int .i64 Y] 2)) (.cells #[.int .i64 X] 2))) (by omega) hgrow7)
        have z7 := hgrow7.size
        (try simp at z7)
        have NY := Lib.hid (new_keep hO3.out hgrow7 (o := (.cells #[.int .i64 Y] 2)) (j := wr.heap.size) (blk_old (heap_alloc_new wr.drew (.cells #[.int .i64 Y] 2))) (by omega))
        obtain ⟨x0_7, x1_7, xf0_7, xf1_7, xl_7⟩ := cells_two kc7.out (Below.refl _ _)
        have g1_7 : w7.cell? ⟨g, 2 * k, none⟩ = some (.int .i64 X) := by rw [cell_of_row w7 g (2 * k) _ _ (0, 0) kx7.out, hcc _ (by omega), hX]
        have g2_7 : w7.cell? ⟨g, 2 * k + 1, none⟩ = some (.int .i64 Y) := by rw [cell_of_row w7 g (2 * k + 1) _ _ (0, 0) kx7.out, hcc _ (by omega), hY]
        clear hown7 hgrow7 hat7 hlt7
        clear hHeld
        refine hK.out _ _ ?hS33 (fun hHeld => ?hT33)
        case hS33 => (((try dsimp only); refine ⟨?_, ?_, ?_, ?_⟩ <;> (repeat (first | with_reducible assumption | with_reducible refine kc_drew ?_ | with_reducible refine kc_drewN ?_ | with_reducible refine kc_alloc ?_ | with_reducible refine kc_set ?_ (by first | omega | (simp; done) | (simp; omega))))))
        clear hK K
        (try simp only [Act.put, List.setIfInBounds_toArray, List.set_cons_zero, List.set_cons_succ])
        refine wpAnyH_take (i := 14) (v := ?hv34) rfl (by kernel_rfl) (by kernel_rfl) (by kernel_rfl) (fun _ _ _ h => h) (Or.inl ⟨by rfl, ?hy34⟩) (by assumption) ?hR34
        case hy34 => (intro wq hSw; (try dsimp only at hSw); go_simp; (try with_reducible rfl))
        simp only [Act.put, List.setIfInBounds_toArray, List.set_cons_zero, List.set_cons_succ]
        refine wpAnyH_ready (rs := [13]) (by kernel_rfl) (by simp) (AllReadyH.cons rfl (fun K hK => ?hR35) AllReadyH.nil)
        have zz := (R7.out).size
        (try simp at zz)
        refine step_append_lies _ (by rfl) _ _ _ (by rfl) w2.heap.size 2 i0 (.int .i64 0) 1 8 Tryd.underlying22 hi hz0 hz1 hz2 rfl (by decide) (.slice A2 k c2) k (ints (oT N k)) (by rfl) ((O7.out).bn HRN.out) ⟨wr.heap.size, 0, none⟩ 1 1 [.int .i64 Y] (by rfl) (by rfl) (app_news NY.out) (app_one _) (by decide) (by unfold maxLen; omega) (by omega) (by first | omega | rfl | (simp; done) | (simp; omega)) (w7.heap.size) (by first | omega | rfl | (simp; done) | (simp; omega)) ?_
        intro g9 cap9 w9 hown9 hgrow9 hat9 hlt9
        have kc9 := Lib.hid ((O7.out).keepR hgrow9 (kc7.out) (.inl rfl))
        have kr9 := Lib.hid ((O7.out).keepR hgrow9 (kr7.out) (.inr (by omega)))
        have kx9 := Lib.hid ((O7.out).keepR hgrow9 (kx7.out) (.inr (by omega)))
        have O9 := Lib.hid ((O7.out).rightN HRN.out hown9 hgrow9 hat9 (by first | omega | rfl | (simp; done) | (simp; omega)) HRS.out)
        have R9 := Lib.hid ((O7.out).belowR (R7.out) (by omega) hgrow9)
        have z9 := hgrow9.size
        (try simp at z9)

        obtain ⟨x0_9, x1_9, xf0_9, xf1_9, xl_9⟩ := cells_two kc9.out (Below.refl _ _)
        have g1_9 : w9.cell? ⟨g, 2 * k, none⟩ = some (.int .i64 X) := by rw [cell_of_row w9 g (2 * k) _ _ (0, 0) kx9.out, hcc _ (by omega), hX]
        have g2_9 : w9.cell? ⟨g, 2 * k + 1, none⟩ = some (.int .i64 Y) := by rw [cell_of_row w9 g (2 * k + 1) _ _ (0, 0) kx9.out, hcc _ (by omega), hY]
        clear hown9 hgrow9 hat9 hlt9
        clear hHeld
        refine hK.out _ _ ?hS36 (fun hHeld => ?hT36)
        case hS36 => (((try dsimp only); refine ⟨?_, ?_, ?_, ?_⟩ <;> (repeat (first | with_reducible assumption | with_reducible refine kc_drew ?_ | with_reducible refine kc_drewN ?_ | with_reducible refine kc_alloc ?_ | with_reducible refine kc_set ?_ (by first | omega | (simp; done) | (simp; omega))))))
        clear hK K
        (try simp only [Act.put, List.setIfInBounds_toArray, List.set_cons_zero, List.set_cons_succ])
        refine wpAnyH_done (by kernel_rfl) ?_ _
        show wpList _ _ _ _ _ _
        clear hHeld
        have K8 := Lib.hid (heap_setCell_same _ _ 0 _ _ (.slice (some ⟨g7, 0, none⟩) (k + 1) cap7) kc9.out)
        have K9 := Lib.hid (heap_setCell_same _ _ 1 _ _ (.slice (some ⟨g9, 0, none⟩) (k + 1) cap9) K8.out)
        have O9b := Lib.hid ((O9.out.set 0 (.slice (some ⟨g7, 0, none⟩) (k + 1) cap7)).set 1 (.slice (some ⟨g9, 0, none⟩) (k + 1) cap9))
        have kr9b := Lib.hid (kb_set (p := ⟨(w.heap.size + 1), 1, none⟩) (u := .slice (some ⟨g9, 0, none⟩) (k + 1) cap9) (kb_set (p := ⟨(w.heap.size + 1), 0, none⟩) (u := .slice (some ⟨g7, 0, none⟩) (k + 1) cap7) kr9.out (by first | omega | (simp; done) | (simp; omega))) (by first | omega | (simp; done) | (simp; omega)))
        have kx9b := Lib.hid (kb_set (p := ⟨(w.heap.size + 1), 1, none⟩) (u := .slice (some ⟨g9, 0, none⟩) (k + 1) cap9) (kb_set (p := ⟨(w.heap.size + 1), 0, none⟩) (u := .slice (some ⟨g7, 0, none⟩) (k + 1) cap7) kx9.out (by first | omega | (simp; done) | (simp; omega))) (by first | omega | (simp; done) | (simp; omega)))
        have R9b := Lib.hid (bl_set (p := ⟨(w.heap.size + 1), 1, none⟩) (bl_set (p := ⟨(w.heap.size + 1), 0, none⟩) R9.out (by first | omega | (simp; done) | (simp; omega)) (.slice (some ⟨g7, 0, none⟩) (k + 1) cap7)) (by first | omega | (simp; done) | (simp; omega)) (.slice (some ⟨g9, 0, none⟩) (k + 1) cap9))
        by_cases hc2 : c' = 2
        · obtain rfl := hc2
          go_wp2
          go_roundg (N.length - 2 * (k + 1))
          case measure => rw [HGK.out]; omega
          case rel => exact ⟨k + 1, some ⟨g, 2 * k, none⟩, 0, by omega, rfl, by rw [show N.length - 2 * (k + 1) = 0 by omega], by omega, fun h => absurd h (by omega), ⟨_, _, _, _, K9.out, O9b.out⟩, kr9b.out, fun _ => kx9b.out, R9b.out, by simp; omega⟩
        · go_wp2
          go_roundg (N.length - 2 * (k + 1))
          case measure => rw [HGK.out]; omega
          case rel => exact ⟨k + 1, some ⟨g, 2 * (k + 1), none⟩, c' - 2, by omega, rfl, by first | rfl | (simp [Nat.mul_add]; omega), by omega, fun _ => rfl, ⟨_, _, _, _, K9.out, O9b.out⟩, kr9b.out, fun _ => kx9b.out, R9b.out, by simp; omega⟩
    · have hk2 : N.length / 2 = k := by omega
      have EL : eT N k = evs N := by rw [← hk2]; exact eT_all N
      have EV : oT N k = ods N := by rw [← hk2]; exact oT_all N
      have hO := hO3.out
      rw [EL, EV] at hO
      have HL := Lib.hid (show (evs N).length = k by rw [← EL]; exact eT_len N k)
      have HV := Lib.hid (show (ods N).length = k by rw [← EV]; exact oT_len N k)
      obtain ⟨o1, o2, ap⟩ := hO.endsN HL.out HV.out
      have HO1 := Lib.hid o1
      have HO2 := Lib.hid o2
      have HAP := Lib.hid ap
      clear EL EV hO o1 o2 ap hk2
      obtain ⟨y0, y1, yf0, yf1, yl⟩ := cells_two kc3.out (Below.refl _ _)
      obtain ⟨r0, r1, rf0, rf1, rl⟩ := cells_two kr3.out (Below.refl _ _)
      have HIC := Lib.hid (ic_rc l)
      have HVC := Lib.hid (fun (v : Bool) (hv : curveOk (evs N) (ods N) = v) => (by
        have h := implValidCurve wr A1 A2 c1 c2 (evs N) (ods N) HO1.out.rc HO2.out.rc (by rw [HL.out]; omega) (by rw [HV.out]; omega)
        rw [HL.out, HV.out, hv] at h
        exact h : Calls Tryd.prog 25 #[.agg #[.slice A1 k c1, .slice A2 k c2]] wr fun e w' => e = .returned (.bool v) ∧ Below wr.heap.size wr w'))
      have HTC := Lib.hid (fun (W : World) (hW : Below wr.heap.size wr W) (tx : List UInt8) (hx : ctText (evs N) (ods N) = tx) => (by
        have hRW := HRD.out.below (hb.trans (hW.mono hb.size))
        have h := implCurveText W A1 A2 c1 c2 (evs N) (ods N) B hRW.hb hRW.pow (HO1.out.rc.below hW) (HO2.out.rc.below hW) (by rw [HL.out]; omega) (by rw [HV.out]; omega)
        rw [HL.out, HV.out, hx] at h
        exact h : Calls Tryd.prog 26 #[.agg #[.slice A1 k c1, .slice A2 k c2]] W fun e w' => e = .returned (.string ⟨tx.toArray⟩) ∧ Below W.heap.size W w'))
      cases hv : curveOk (evs N) (ods N)
      · have HV5 := HVC.out _ hv
        have H := Lib.hid (show rcB l = false by rw [← HIC.out, icB, HNN.out, hv]; rfl)
        have HD := Lib.hid (rd_no H.out)
        clear hv
        go_wp2_with (go_at_call 25; refine HV5.mono ?_; rintro e w4 ⟨rfl, hb4⟩; have kr4 := keep_blk (hb := hb4) (h := kr3.out); obtain ⟨r0, r1, rf0, rf1, rl⟩ := cells_two kr4 (Below.refl _ _); have kc4 := keep_blk (hb := hb4) (h := kc3.out); obtain ⟨q0, q1, qf0, qf1, ql⟩ := cells_two kc4 (Below.refl _ _))
        refine bodyPost_ret (v := .tuple #[.agg #[.slice none 0 0, .slice none 0 0], .bool false]) (by simp [results, Tryd.results7, go_sem, r0, r1]) rfl ?_
        rw [H.out, HD.out.1, HD.out.2]
        exact ⟨none, 0, none, 0, rfl, OwnC.nil _ _ _ _, OwnC.nil _ _ _ _, Apart.none _, by repeat (first | exact Below.refl _ _ | assumption | apply bl_alloc | apply bl_drewN | apply Below.drew | (refine bl_set ?_ (by first | exact Nat.le_refl _ | (simp; done) | (simp; omega)) _) | (refine bl_trans ?_ (by assumption)))⟩
      · have HV5 := HVC.out _ hv
        by_cases ht : ctText (evs N) (ods N) = l
        · have H := Lib.hid (show rcB l = true by rw [← HIC.out, icB, HNN.out, hv, ht]; simp)
          have HD := Lib.hid (rd_yes H.out)
          have HS := Lib.hid (ic_same H.out)
          have HT5 := fun W hW => HTC.out W hW l ht
          clear hv ht
          go_wp2_with (first | (go_at_call 25; refine HV5.mono ?_; rintro e w4 ⟨rfl, hb4⟩; have kr4 := keep_blk (hb := hb4) (h := kr3.out); obtain ⟨r0, r1, rf0, rf1, rl⟩ := cells_two kr4 (Below.refl _ _); have kc4 := keep_blk (hb := hb4) (h := kc3.out); obtain ⟨q0, q1, qf0, qf1, ql⟩ := cells_two kc4 (Below.refl _ _)) | (go_at_call 26; refine (HT5 _ hb4).mono ?_; rintro e w5 ⟨rfl, hb5⟩; have kr5 := keep_blk (hb := hb5) (h := kr4); obtain ⟨r0, r1, rf0, rf1, rl⟩ := cells_two kr5 (Below.refl _ _); have kc5 := keep_blk (hb := hb5) (h := kc4); obtain ⟨q0, q1, qf0, qf1, ql⟩ := cells_two kc5 (Below.refl _ _)))
          refine bodyPost_ret (v := .tuple #[.agg #[.slice A1 k c1, .slice A2 k c2], .bool true]) (by simp [results, Tryd.results7, go_sem, r0, r1]) rfl ?_
          rw [H.out, HD.out.1, HD.out.2, ← HS.out.1, ← HS.out.2, HNN.out]
          have z4 := hb4.size
          have z5 := hb5.size
          have zr := hb.size
          exact ⟨_, _, _, _, by rw [HL.out, HV.out], (((HO1.out.below (bl_trans hb4 hb5)).far (.inl (by first | omega | (simp; done) | (simp; omega))) _).far (.inl (by first | omega | (simp; done) | (simp; omega))) _).wide (by omega) (by simp; omega), (((HO2.out.below (bl_trans hb4 hb5)).far (.inl (by first | omega | (simp; done) | (simp; omega))) _).far (.inl (by first | omega | (simp; done) | (simp; omega))) _).wide (by omega) (by simp; omega), HAP.out, by repeat (first | exact Below.refl _ _ | assumption | apply bl_alloc | apply bl_drewN | apply Below.drew | (refine bl_set ?_ (by first | exact Nat.le_refl _ | (simp; done) | (simp; omega)) _) | (refine bl_trans ?_ (by assumption)))⟩
        · obtain ⟨tx, hx⟩ : ∃ tx, ctText (evs N) (ods N) = tx := ⟨_, rfl⟩
          have H := Lib.hid (show rcB l = false by rw [← HIC.out, icB, HNN.out, hv]; simp [ht])
          have HD := Lib.hid (rd_no H.out)
          have HT5 := fun W hW => HTC.out W hW tx hx
          rw [hx] at ht
          have ht3 : (tx == l) = false := by simpa using ht
          clear hv hx ht
          go_wp2_with (first | (go_at_call 25; refine HV5.mono ?_; rintro e w4 ⟨rfl, hb4⟩; have kr4 := keep_blk (hb := hb4) (h := kr3.out); obtain ⟨r0, r1, rf0, rf1, rl⟩ := cells_two kr4 (Below.refl _ _); have kc4 := keep_blk (hb := hb4) (h := kc3.out); obtain ⟨q0, q1, qf0, qf1, ql⟩ := cells_two kc4 (Below.refl _ _)) | (go_at_call 26; refine (HT5 _ hb4).mono ?_; rintro e w5 ⟨rfl, hb5⟩; have kr5 := keep_blk (hb := hb5) (h := kr4); obtain ⟨r0, r1, rf0, rf1, rl⟩ := cells_two kr5 (Below.refl _ _); have kc5 := keep_blk (hb := hb5) (h := kc4); obtain ⟨q0, q1, qf0, qf1, ql⟩ := cells_two kc5 (Below.refl _ _)))
          refine bodyPost_ret (v := .tuple #[.agg #[.slice none 0 0, .slice none 0 0], .bool false]) (by simp [results, Tryd.results7, go_sem, r0, r1]) rfl ?_
          rw [H.out, HD.out.1, HD.out.2]
          exact ⟨none, 0, none, 0, rfl, OwnC.nil _ _ _ _, OwnC.nil _ _ _ _, Apart.none _, by repeat (first | exact Below.refl _ _ | assumption | apply bl_alloc | apply bl_drewN | apply Below.drew | (refine bl_set ?_ (by first | exact Nat.le_refl _ | (simp; done) | (simp; omega)) _) | (refine bl_trans ?_ (by assumption)))⟩


end Go.Proofs.YtcjfdfjimcapkaaDoor
