/-
  Contract on reading a net: the program. It holds for every text of at most 1048576 bytes, where a table and two variables of the library read as they are laid.
-/
import Derived.IntWalk
import Derived.Test.YtcjfdfjimcapkaaDoorReadN
import Derived.Test.YtcjfdfjimcapkaaDoorNums
import Derived.Test.YtcjfdfjimcapkaaDoorNtext
import Derived.Test.YtcjfdfjimcapkaaDoorCut
import Derived.Deep.RegionHeld3
namespace Go.Proofs.YtcjfdfjimcapkaaDoor
set_option linter.unusedVariables false
set_option linter.unusedSimpArgs false
open Go.RowKit

theorem gt_cons (x : Int) (r : List Int) (i : Nat) : gt (x :: r) (i + 1) = gt r i := by simp [gt]
theorem rest_some {B E : Nat} {w : World} {A : Option Addr} {N : List Int} (h : OwnC B E w A (ints N)) (h0 : 0 < N.length) : ∃ g cur T, A = some ⟨g, 0, none⟩ ∧ B ≤ g ∧ g < E ∧ w.heap[g]? = some (.cells cur T (0, 0)) ∧ ∀ i, i < N.length → cur[i]? = some (.int .i64 (gt N i)) := by
  obtain ⟨g, cur, T, e, hb, hg, k, hc⟩ := h (by rw [ints_len]; exact h0)
  exact ⟨g, cur, T, e, hb, hg, k, fun i hi => by rw [hc i (by rw [ints_len]; exact hi), ints_get N i hi]⟩
theorem own_drew {w : World} {B T n sz : Nat} {v : Value} {xs : List Value} (h : w.ownsRow B T sz v n xs) : w.drew.ownsRow B T sz v n xs := h
theorem nums_len (l : List UInt8) : (nums l).length ≤ l.length + 1 := by
  have := pcs_len l
  unfold nums
  split
  · simpa using this
  · simp
set_option maxRecDepth 100000 in
set_option maxHeartbeats 1600000 in
theorem implReadN (w : World) (l : List UInt8) (B : Nat) (t1 t2 : TypeId) (p1 p2 : Value) (hm : l.length ≤ 1048576) (hR : Rdy B t1 t2 p1 p2 w) : Calls Tryd.prog 12 #[.string ⟨l.toArray⟩] w (NewNetB (rnJ l) (rnN l) (rnF l) (rnB l) w) := by
  have HRD := Lib.hid hR
  clear hR
  obtain ⟨i0, hi, hz0, hz1, hz2⟩ := info_parts infoDitch
  obtain ⟨N, hN⟩ : ∃ N, nums l = N := ⟨_, rfl⟩
  have HNN := Lib.hid hN
  have HNM := Lib.hid (fun (W : World) (h : Rdy B t1 t2 p1 p2 W) => (by rw [← hN]; exact implNumbers W l B t1 t2 p1 p2 hm h : Calls Tryd.prog 24 #[.string ⟨l.toArray⟩] W (NewNums N W)))
  have hnl : N.length ≤ l.length + 1 := by rw [← hN]; exact nums_len l
  have HIC := Lib.hid (in_rn l)
  clear hN
  match N with
  | [] =>
    have H := Lib.hid (show rnB l = false by rw [← HIC.out]; exact in_no HNN.out)
    have HD := Lib.hid (rnn_no H.out)
    go_enter Tryd.func12, Tryd.ntmps12
    go_wp2_with ((go_at_call 24; refine (HNM.out _ (HRD.out.below (by repeat (first | exact Below.refl _ _ | assumption | apply bl_alloc | apply bl_drewN | apply Below.drew | (refine bl_set ?_ (by first | exact Nat.le_refl _ | (simp; done) | (simp; omega)) _) | (refine bl_trans ?_ (by assumption)))))).mono ?_; rintro e w2 ⟨A, c0, rfl, hc0, hn0, hown, hb2⟩; have kr2 : w2.heap[w.heap.size]? = some (.cells #[.int .i64 0, .slice none 0 0] 32 (0, 0)) := keep_blk (hb := hb2) (h := heap_alloc_new w _); obtain ⟨r0, r1, rf0, rf1, rl⟩ := cells_two kr2 (Below.refl _ _)))
    refine bodyPost_ret (v := .tuple #[.agg #[.int .i64 0, .slice none 0 0], .bool false]) (by simp [results, Tryd.results12, go_sem, r0, r1]) rfl ?_
    rw [H.out, HD.out.1, HD.out.2.1]
    exact ⟨none, 0, rfl, by rw [HD.out.2.2]; exact OwnC.nil _ _ _ _, by repeat (first | exact Below.refl _ _ | assumption | apply bl_alloc | apply bl_drewN | apply Below.drew | (refine bl_set ?_ (by first | exact Nat.le_refl _ | (simp; done) | (simp; omega)) _) | (refine bl_trans ?_ (by assumption)))⟩
  | J :: r =>
    have hrl : r.length ≤ l.length := by simpa using hnl
    clear hnl
    go_enter Tryd.func12, Tryd.ntmps12
    go_upto_region 6 with (go_at_call 24; refine (HNM.out _ (HRD.out.below (by repeat (first | exact Below.refl _ _ | assumption | apply bl_alloc | apply bl_drewN | apply Below.drew | (refine bl_set ?_ (by first | exact Nat.le_refl _ | (simp; done) | (simp; omega)) _) | (refine bl_trans ?_ (by assumption)))))).mono ?_; rintro e w2 ⟨A, c0, rfl, hc0, hn0, hown, hb2⟩; have kr2 : w2.heap[w.heap.size]? = some (.cells #[.int .i64 0, .slice none 0 0] 32 (0, 0)) := keep_blk (hb := hb2) (h := heap_alloc_new w _); obtain ⟨r0, r1, rf0, rf1, rl⟩ := cells_two kr2 (Below.refl _ _); obtain ⟨g, cur, T, rfl, hgB0, hgw, kg2, hcur⟩ := rest_some hown (by simp); have c00 : w2.cell? ⟨g, 0, none⟩ = some (.int .i64 J) := (cell_of_row w2 g 0 _ _ (0, 0) kg2).trans (hcur 0 (by simp)))
    ·
      have zb2 := hb2.size
      simp at zb2 hgB0
      go_loopg [4] r.length (fun m s wr => ∃ k A' c' v, 3 * k ≤ r.length ∧ m = r.length - 3 * k ∧ s = .slice A' (r.length - 3 * k) c' ∧ r.length - 3 * k ≤ c' ∧ (0 < r.length - 3 * k → A' = some ⟨g, 1 + 3 * k, none⟩) ∧ wr.heap[w2.heap.size]? = some (.cells #[.int .i64 J, v] 32 (0, 0)) ∧ wr.ownsRow (w2.heap.size + 1) 55 3 v k (ints (tri r k)) ∧ wr.heap[w.heap.size]? = some (.cells #[.int .i64 0, .slice none 0 0] 32 (0, 0)) ∧ wr.heap[g]? = some (.cells cur T (0, 0)) ∧ Below w.heap.size w wr)
      case atStart => first
        | exact ⟨0, some ⟨g, 1, none⟩, c0 - 1, .slice none 0 0, by omega, by omega, rfl, by simp at hc0; omega, fun _ => rfl, heap_alloc_new _ _, World.ownsRow_nil _ _ _ _, blk_old kr2, blk_old kg2, by repeat (first | exact Below.refl _ _ | assumption | apply bl_alloc | apply bl_drewN | apply Below.drew | (refine bl_set ?_ (by first | exact Nat.le_refl _ | (simp; done) | (simp; omega)) _) | (refine bl_trans ?_ (by assumption)))⟩
        | exact ⟨0, some ⟨g, 0, none⟩, 0, .slice none 0 0, by omega, by omega, (by first | rfl | (simp at hc0 ⊢; done) | (simp at hc0 ⊢; omega)), by simp at hc0; omega, (fun h => by simp at hc0; omega), heap_alloc_new _ _, World.ownsRow_nil _ _ _ _, blk_old kr2, blk_old kg2, by repeat (first | exact Below.refl _ _ | assumption | apply bl_alloc | apply bl_drewN | apply Below.drew | (refine bl_set ?_ (by first | exact Nat.le_refl _ | (simp; done) | (simp; omega)) _) | (refine bl_trans ?_ (by assumption)))⟩
      case round =>
        clear kr2 kg2 c00 r0 r1 rf0 rf1 rl hown hc0 hn0
        obtain ⟨k, A', c', v, hk, hgk, rfl, hc', hA', kn, hown3, kr, kg, hb⟩ := hrel
        have HGK := Lib.hid hgk
        have hlk := blk_lt kn
        clear hgk
        by_cases hlt : 3 ≤ r.length - 3 * k
        · have hgl := blk_lt kg
          obtain rfl := hA' (by omega)
          obtain ⟨a, ha⟩ : ∃ a, dF r k = a := ⟨_, rfl⟩
          obtain ⟨b, hb'⟩ : ∃ b, dT r k = b := ⟨_, rfl⟩
          obtain ⟨f, hf⟩ : ∃ f, dW r k = f := ⟨_, rfl⟩
          have HTN := Lib.hid (show tri r (k + 1) = tri r k ++ [a, b, f] by rw [tri_next, ha, hb', hf])
          have ca : cur[1 + 3 * k]? = some (.int .i64 a) := by rw [hcur _ (by simp; omega), ← ha, dF, show 1 + 3 * k = k * 3 + 1 by omega, gt_cons]
          have cb : cur[1 + 3 * k + 1]? = some (.int .i64 b) := by rw [hcur _ (by simp; omega), ← hb', dT, show 1 + 3 * k + 1 = k * 3 + 1 + 1 by omega, gt_cons]
          have cf : cur[1 + 3 * k + 2]? = some (.int .i64 f) := by rw [hcur _ (by simp; omega), ← hf, dW, show 1 + 3 * k + 2 = k * 3 + 2 + 1 by omega, gt_cons]
          have g1 : wr.cell? ⟨g, 1 + 3 * k, none⟩ = some (.int .i64 a) := (cell_of_row wr g _ _ _ (0, 0) kg).trans ca
          have g2 : wr.cell? ⟨g, 1 + 3 * k + 1, none⟩ = some (.int .i64 b) := (cell_of_row wr g _ _ _ (0, 0) kg).trans cb
          have g3 : wr.cell? ⟨g, 1 + 3 * k + 2, none⟩ = some (.int .i64 f) := (cell_of_row wr g _ _ _ (0, 0) kg).trans cf
          obtain ⟨x0, x1, xf0, xf1, xl⟩ := cells_two kn (Below.refl _ _)
          have j0 : 0 < r.length - 3 * k := by omega
          have j1 : (1 : Int) < ((r.length - 3 * k : Nat) : Int) := by omega
          have j2 : (2 : Int) < ((r.length - 3 * k : Nat) : Int) := by omega
          clear hA' ha hb' hf hcur
          go_wp2
          refine region_cutH (S := fun w' => w'.cell? ⟨w2.heap.size, 1, none⟩ = some v ∧ w'.cell? ⟨g, 1 + 3 * k, none⟩ = some (.int .i64 a) ∧ w'.cell? ⟨g, 1 + 3 * k + 1, none⟩ = some (.int .i64 b) ∧ w'.cell? ⟨g, 1 + 3 * k + 2, none⟩ = some (.int .i64 f)) 14 (by kernel_rfl) (by kernel_rfl) ?hS17 (fun hHeld => ?hR17)
          case hS17 => (((try dsimp only); refine ⟨?_, ?_, ?_, ?_⟩ <;> (repeat (first | with_reducible assumption | with_reducible refine kc_drew ?_ | with_reducible refine kc_drewN ?_ | with_reducible refine kc_alloc ?_ | with_reducible refine kc_set ?_ (by first | omega | (simp; done) | (simp; omega))))))
          simp only [List.take_succ_cons, List.take_zero, List.drop_succ_cons, List.drop_zero]
          refine wpAnyH_take (i := 0) (v := ?hv18) rfl (by kernel_rfl) (by kernel_rfl) (by kernel_rfl) (fun _ _ _ h => h) (Or.inl ⟨by rfl, ?hy18⟩) (by assumption) ?hR18
          case hy18 => (intro wq hSw; (try dsimp only at hSw); go_simp; (try with_reducible rfl))
          simp only [Act.put, List.setIfInBounds_toArray, List.set_cons_zero, List.set_cons_succ]
          refine wpAnyH_take (i := 1) (v := ?hv19) rfl (by kernel_rfl) (by kernel_rfl) (by kernel_rfl) (fun _ _ _ h => h) (Or.inl ⟨by rfl, ?hy19⟩) (by assumption) ?hR19
          case hy19 => (intro wq hSw; (try dsimp only at hSw); go_simp; (try with_reducible rfl))
          simp only [Act.put, List.setIfInBounds_toArray, List.set_cons_zero, List.set_cons_succ]
          refine wpAnyH_take (i := 2) (v := ?hv20) rfl (by kernel_rfl) (by kernel_rfl) (by kernel_rfl) (fun _ _ _ h => h) (Or.inl ⟨by rfl, ?hy20⟩) (by assumption) ?hR20
          case hy20 => (intro wq hSw; (try dsimp only at hSw); go_simp; (try with_reducible rfl))
          simp only [Act.put, List.setIfInBounds_toArray, List.set_cons_zero, List.set_cons_succ]
          refine wpAnyH_take (i := 3) (v := ?hv21) rfl (by kernel_rfl) (by kernel_rfl) (by kernel_rfl) (fun _ _ _ h => h) (Or.inl ⟨by rfl, ?hy21⟩) (by assumption) ?hR21
          case hy21 => (intro wq hSw; (try dsimp only at hSw); go_simp; (try with_reducible rfl))
          simp only [Act.put, List.setIfInBounds_toArray, List.set_cons_zero, List.set_cons_succ]
          refine wpAnyH_take (i := 4) (v := ?hv22) rfl (by kernel_rfl) (by kernel_rfl) (by kernel_rfl) (fun _ _ _ h => h) (Or.inl ⟨by rfl, ?hy22⟩) (by assumption) ?hR22
          case hy22 => (intro wq hSw; (try dsimp only at hSw); go_simp; (try with_reducible rfl))
          simp only [Act.put, List.setIfInBounds_toArray, List.set_cons_zero, List.set_cons_succ]
          refine wpAnyH_take (i := 5) (v := ?hv23) rfl (by kernel_rfl) (by kernel_rfl) (by kernel_rfl) (fun _ _ _ h => h) (Or.inl ⟨by rfl, ?hy23⟩) (by assumption) ?hR23
          case hy23 => (intro wq hSw; (try dsimp only at hSw); go_simp; (try with_reducible rfl))
          simp only [Act.put, List.setIfInBounds_toArray, List.set_cons_zero, List.set_cons_succ]
          refine wpAnyH_take (i := 6) (v := ?hv24) rfl (by kernel_rfl) (by kernel_rfl) (by kernel_rfl) (fun _ _ _ h => h) (Or.inl ⟨by rfl, ?hy24⟩) (by assumption) ?hR24
          case hy24 => (intro wq hSw; (try dsimp only at hSw); go_simp; (try with_reducible rfl))
          simp only [Act.put, List.setIfInBounds_toArray, List.set_cons_zero, List.set_cons_succ]
          refine wpAnyH_take (i := 7) (v := ?hv25) rfl (by kernel_rfl) (by kernel_rfl) (by kernel_rfl) (fun _ _ _ h => h) (Or.inl ⟨by rfl, ?hy25⟩) (by assumption) ?hR25
          case hy25 => (intro wq hSw; (try dsimp only at hSw); go_simp; (try with_reducible rfl))
          simp only [Act.put, List.setIfInBounds_toArray, List.set_cons_zero, List.set_cons_succ]
          refine wpAnyH_take (i := 8) (v := ?hv26) rfl (by kernel_rfl) (by kernel_rfl) (by kernel_rfl) (fun _ _ _ h => h) (Or.inl ⟨by rfl, ?hy26⟩) (by assumption) ?hR26
          case hy26 => (intro wq hSw; (try dsimp only at hSw); go_simp; (try with_reducible rfl))
          simp only [Act.put, List.setIfInBounds_toArray, List.set_cons_zero, List.set_cons_succ]
          refine wpAnyH_take (i := 9) (v := ?hv27) rfl (by kernel_rfl) (by kernel_rfl) (by kernel_rfl) (fun _ _ _ h => h) (Or.inl ⟨by rfl, ?hy27⟩) (by assumption) ?hR27
          case hy27 => (intro wq hSw; (try dsimp only at hSw); go_simp; (try with_reducible rfl))
          simp only [Act.put, List.setIfInBounds_toArray, List.set_cons_zero, List.set_cons_succ]
          refine wpAnyH_take (i := 10) (v := ?hv28) rfl (by kernel_rfl) (by kernel_rfl) (by kernel_rfl) (fun _ _ _ h => h) (Or.inl ⟨by rfl, ?hy28⟩) (by assumption) ?hR28
          case hy28 => (intro wq hSw; (try dsimp only at hSw); go_simp; (try with_reducible rfl))
          simp only [Act.put, List.setIfInBounds_toArray, List.set_cons_zero, List.set_cons_succ]
          refine wpAnyH_take (i := 11) (v := ?hv29) rfl (by kernel_rfl) (by kernel_rfl) (by kernel_rfl) (fun _ _ _ h => h) (Or.inl ⟨by rfl, ?hy29⟩) (by assumption) ?hR29
          case hy29 => (intro wq hSw; (try dsimp only at hSw); go_simp; (try with_reducible rfl))
          simp only [Act.put, List.setIfInBounds_toArray, List.set_cons_zero, List.set_cons_succ]
          refine wpAnyH_ready (rs := [12]) (by kernel_rfl) (by simp) (AllReadyH.cons rfl (fun K hK => ?hR30) AllReadyH.nil)
          go_simp
          clear hHeld
          refine hK.out _ _ ?hS30 (fun hHeld => ?hT30)
          case hS30 => (((try dsimp only); refine ⟨?_, ?_, ?_, ?_⟩ <;> (repeat (first | with_reducible assumption | with_reducible refine kc_drew ?_ | with_reducible refine kc_drewN ?_ | with_reducible refine kc_alloc ?_ | with_reducible refine kc_set ?_ (by first | omega | (simp; done) | (simp; omega))))))
          clear hK K
          (try simp only [Act.put, List.setIfInBounds_toArray, List.set_cons_zero, List.set_cons_succ])
          refine wpAnyH_ready (rs := [13]) (by kernel_rfl) (by simp) (AllReadyH.cons rfl (fun K hK => ?hR31) AllReadyH.nil)
          refine step_append_lies _ (by rfl) _ _ _ (by rfl) (w2.heap.size + 1) 55 i0 (.agg #[.int .i64 0, .int .i64 0, .int .i64 0]) 3 24 Tryd.underlying30 hi hz0 hz1 hz2 rfl (by decide) v k (ints (tri r k)) (by rfl) ((own_drew hown3).alloc (.cells #[.int .i64 a, .int .i64 b, .int .i64 f] 55)) ⟨wr.heap.size, 0, none⟩ 1 1 [.int .i64 a, .int .i64 b, .int .i64 f] (by rfl) (by rfl) (World.news_of_block (cs := #[.int .i64 a, .int .i64 b, .int .i64 f]) (t := 55) (fr := (0, 0)) (heap_alloc_new wr.drew _)) (by simp [Value.oneCell']) (by omega) (by unfold maxLen; omega) (by omega) (by simp; omega) (wr.heap.size + 1) (by first | rfl | (simp; done)) ?_
          intro g2 cap2 w6 hown2 hgrow2 hat2 hlt2
          have kn6 := app_keep ((own_drew hown3).alloc (.cells #[.int .i64 a, .int .i64 b, .int .i64 f] 55)) hgrow2 (blk_old (blk_drew kn)) (by omega)
          have kr6 := app_keep ((own_drew hown3).alloc (.cells #[.int .i64 a, .int .i64 b, .int .i64 f] 55)) hgrow2 (blk_old (blk_drew kr)) (by omega)
          have kg6 := app_keep ((own_drew hown3).alloc (.cells #[.int .i64 a, .int .i64 b, .int .i64 f] 55)) hgrow2 (blk_old (blk_drew kg)) (by omega)
          obtain ⟨m0, m1, mf0, mf1, ml⟩ := cells_two kn6 (Below.refl _ _)
          have R6 := Lib.hid (app_belowB (bl_alloc (Below.drew hb) (.cells #[.int .i64 a, .int .i64 b, .int .i64 f] 55)) ((own_drew hown3).alloc (.cells #[.int .i64 a, .int .i64 b, .int .i64 f] 55)) (by omega) hgrow2)
          have own6 := Lib.hid (show w6.ownsRow (w2.heap.size + 1) 55 3 (.slice (some ⟨g2, 0, none⟩) (k + 1) cap2) (k + 1) (ints (tri r (k + 1))) from (by rw [← ints_three HTN.out]; exact hown2))
          have hgB : w2.heap.size < g2 := own_geB hown2
          have c1_6 : w6.cell? ⟨g, 1 + 3 * k, none⟩ = some (.int .i64 a) := (cell_of_row w6 g _ _ _ (0, 0) kg6).trans ca
          have c2_6 : w6.cell? ⟨g, 1 + 3 * k + 1, none⟩ = some (.int .i64 b) := (cell_of_row w6 g _ _ _ (0, 0) kg6).trans cb
          have c3_6 : w6.cell? ⟨g, 1 + 3 * k + 2, none⟩ = some (.int .i64 f) := (cell_of_row w6 g _ _ _ (0, 0) kg6).trans cf
          clear hHeld
          refine hK.out _ _ ?hS31 (fun hHeld => ?hT31)
          case hS31 => (((try dsimp only); refine ⟨?_, ?_, ?_, ?_⟩ <;> (repeat (first | with_reducible assumption | with_reducible refine kc_drew ?_ | with_reducible refine kc_drewN ?_ | with_reducible refine kc_alloc ?_ | with_reducible refine kc_set ?_ (by first | omega | (simp; done) | (simp; omega))))))
          clear hK K
          (try simp only [Act.put, List.setIfInBounds_toArray, List.set_cons_zero, List.set_cons_succ])
          refine wpAnyH_done (by kernel_rfl) ?hR32 _
          show wpList _ _ _ _ _ _
          have K9 := Lib.hid (heap_setCell_same _ _ 1 _ _ (.slice (some ⟨g2, 0, none⟩) (k + 1) cap2) kn6)
          have O9 := Lib.hid (own_setCell (p := ⟨w2.heap.size, 1, none⟩) own6.out (fun g hg => by simp [Value.ownBlock] at hg; subst hg; show _ ≠ w2.heap.size; omega) (.slice (some ⟨g2, 0, none⟩) (k + 1) cap2))
          have kr9 := Lib.hid (kb_set (p := ⟨w2.heap.size, 1, none⟩) (u := .slice (some ⟨g2, 0, none⟩) (k + 1) cap2) kr6 (by first | omega | (simp; done) | (simp; omega)))
          have kg9 := Lib.hid (kb_set (p := ⟨w2.heap.size, 1, none⟩) (u := .slice (some ⟨g2, 0, none⟩) (k + 1) cap2) kg6 (by first | omega | (simp; done) | (simp; omega)))
          have R9 := Lib.hid (bl_set (p := ⟨w2.heap.size, 1, none⟩) R6.out (by first | omega | (simp; done) | (simp; omega)) (.slice (some ⟨g2, 0, none⟩) (k + 1) cap2))
          by_cases hc2 : c' = 3
          · obtain rfl := hc2
            go_wp2
            go_roundg (r.length - 3 * (k + 1))
            case measure => rw [HGK.out]; omega
            case rel => exact ⟨k + 1, some ⟨g, 1 + 3 * k, none⟩, 0, _, by omega, rfl, by rw [show r.length - 3 * (k + 1) = 0 by omega], by omega, fun h => absurd h (by omega), K9.out, O9.out, kr9.out, kg9.out, R9.out⟩
          · go_wp2
            go_roundg (r.length - 3 * (k + 1))
            case measure => rw [HGK.out]; omega
            case rel => exact ⟨k + 1, some ⟨g, 1 + 3 * (k + 1), none⟩, c' - 3, _, by omega, rfl, by first | rfl | (simp [Nat.mul_add]; omega), by omega, fun _ => rfl, K9.out, O9.out, kr9.out, kg9.out, R9.out⟩
        · have hk2 : r.length / 3 = k := by omega
          obtain ⟨A, c, rfl, hnc, ho⟩ := own_form3 hown3 (tri_len r k)
          have HO := Lib.hid ho
          have HTL := Lib.hid (tri_len r k)
          obtain ⟨n0, n1, nf0, nf1, nl⟩ := cells_two kn (Below.refl _ _)
          obtain ⟨r0, r1, rf0, rf1, rl⟩ := cells_two kr (Below.refl _ _)
          have HI2 := Lib.hid (in_yes HNN.out)
          rw [hk2] at HI2
          have HVC := Lib.hid (fun (b : Bool) (hv : netOk J k (tri r k) = b) => (by
            have h := implValidNet wr J A k c (tri r k) HO.out.rc HTL.out (by omega)
            rw [hv] at h
            exact h : Calls Tryd.prog 32 #[.agg #[.int .i64 J, .slice A k c]] wr fun e w' => e = .returned (.bool b) ∧ Below wr.heap.size wr w'))
          have HTC := Lib.hid (fun (W : World) (hW : Below wr.heap.size wr W) (tx : List UInt8) (hx : ntText J k (tri r k) = tx) => (by
            have hRW := HRD.out.below (hb.trans (hW.mono hb.size))
            have h := implNetText W J A k c (tri r k) B hRW.hb hRW.pow (HO.out.rc.below hW) HTL.out (by omega)
            rw [hx] at h
            exact h : Calls Tryd.prog 33 #[.agg #[.int .i64 J, .slice A k c]] W fun e w' => e = .returned (.string ⟨tx.toArray⟩) ∧ Below W.heap.size W w'))
          clear ho hown3 hk2
          cases hv : netOk J k (tri r k)
          · have HV5 := HVC.out _ hv
            have H := Lib.hid (show rnB l = false by rw [← HIC.out, HI2.out, hv]; rfl)
            have HD := Lib.hid (rnn_no H.out)
            clear hv
            go_wp2_with (go_at_call 32; refine HV5.mono ?_; rintro e w4 ⟨rfl, hb4⟩; have kn4 := keep_blk (hb := hb4) (h := kn); have kr4 := keep_blk (hb := hb4) (h := kr); obtain ⟨n0, n1, nf0, nf1, nl⟩ := cells_two kn4 (Below.refl _ _); obtain ⟨r0, r1, rf0, rf1, rl⟩ := cells_two kr4 (Below.refl _ _))
            refine bodyPost_ret (v := .tuple #[.agg #[.int .i64 0, .slice none 0 0], .bool false]) (by simp [results, Tryd.results12, go_sem, r0, r1]) rfl ?_
            rw [H.out, HD.out.1, HD.out.2.1]
            exact ⟨none, 0, rfl, by rw [HD.out.2.2]; exact OwnC.nil _ _ _ _, by repeat (first | exact Below.refl _ _ | assumption | apply bl_alloc | apply bl_drewN | apply Below.drew | (refine bl_set ?_ (by first | exact Nat.le_refl _ | (simp; done) | (simp; omega)) _) | (refine bl_trans ?_ (by assumption)))⟩
          · have HV5 := HVC.out _ hv
            by_cases ht : ntText J k (tri r k) = l
            · have H := Lib.hid (show rnB l = true by rw [← HIC.out, HI2.out, hv, ht]; simp)
              have HD := Lib.hid (rnn_yes H.out)
              have HS := Lib.hid (in_same H.out)
              have HT5 := fun W hW => HTC.out W hW l ht
              clear hv ht
              go_wp2_with (first | (go_at_call 32; refine HV5.mono ?_; rintro e w4 ⟨rfl, hb4⟩; have kn4 := keep_blk (hb := hb4) (h := kn); have kr4 := keep_blk (hb := hb4) (h := kr); obtain ⟨n0, n1, nf0, nf1, nl⟩ := cells_two kn4 (Below.refl _ _); obtain ⟨r0, r1, rf0, rf1, rl⟩ := cells_two kr4 (Below.refl _ _)) | (go_at_call 33; refine (HT5 _ hb4).mono ?_; rintro e w5 ⟨rfl, hb5⟩; have kn5 := keep_blk (hb := hb5) (h := kn4); have kr5 := keep_blk (hb := hb5) (h := kr4); obtain ⟨n0, n1, nf0, nf1, nl⟩ := cells_two kn5 (Below.refl _ _); obtain ⟨r0, r1, rf0, rf1, rl⟩ := cells_two kr5 (Below.refl _ _)))
              refine bodyPost_ret (v := .tuple #[.agg #[.int .i64 J, .slice A k c], .bool true]) (by simp [results, Tryd.results12, go_sem, r0, r1]) rfl ?_
              obtain ⟨J', r', hn, h1, h2, h3⟩ := HS.out
              rw [HNN.out] at hn
              cases hn
              rw [show r.length / 3 = k by omega] at h2 h3
              rw [H.out, HD.out.1, HD.out.2.1, ← h1, ← h2]
              have z4 := hb4.size
              have z5 := hb5.size
              have zr := hb.size
              exact ⟨_, _, rfl, by rw [HD.out.2.2, ← h3]; exact (((HO.out.below (bl_trans hb4 hb5)).far (.inl (by first | omega | (simp; done) | (simp; omega))) _).far (.inl (by first | omega | (simp; done) | (simp; omega))) _).wide (by omega) (by simp; omega), by repeat (first | exact Below.refl _ _ | assumption | apply bl_alloc | apply bl_drewN | apply Below.drew | (refine bl_set ?_ (by first | exact Nat.le_refl _ | (simp; done) | (simp; omega)) _) | (refine bl_trans ?_ (by assumption)))⟩
            · obtain ⟨tx, hx⟩ : ∃ tx, ntText J k (tri r k) = tx := ⟨_, rfl⟩
              have H := Lib.hid (show rnB l = false by rw [← HIC.out, HI2.out, hv]; simp [ht])
              have HD := Lib.hid (rnn_no H.out)
              have HT5 := fun W hW => HTC.out W hW tx hx
              rw [hx] at ht
              have ht3 : (tx == l) = false := by simpa using ht
              clear hv hx ht
              go_wp2_with (first | (go_at_call 32; refine HV5.mono ?_; rintro e w4 ⟨rfl, hb4⟩; have kn4 := keep_blk (hb := hb4) (h := kn); have kr4 := keep_blk (hb := hb4) (h := kr); obtain ⟨n0, n1, nf0, nf1, nl⟩ := cells_two kn4 (Below.refl _ _); obtain ⟨r0, r1, rf0, rf1, rl⟩ := cells_two kr4 (Below.refl _ _)) | (go_at_call 33; refine (HT5 _ hb4).mono ?_; rintro e w5 ⟨rfl, hb5⟩; have kn5 := keep_blk (hb := hb5) (h := kn4); have kr5 := keep_blk (hb := hb5) (h := kr4); obtain ⟨n0, n1, nf0, nf1, nl⟩ := cells_two kn5 (Below.refl _ _); obtain ⟨r0, r1, rf0, rf1, rl⟩ := cells_two kr5 (Below.refl _ _)))
              refine bodyPost_ret (v := .tuple #[.agg #[.int .i64 0, .slice none 0 0], .bool false]) (by simp [results, Tryd.results12, go_sem, r0, r1]) rfl ?_
              rw [H.out, HD.out.1, HD.out.2.1]
              exact ⟨none, 0, rfl, by rw [HD.out.2.2]; exact OwnC.nil _ _ _ _, by repeat (first | exact Below.refl _ _ | assumption | apply bl_alloc | apply bl_drewN | apply Below.drew | (refine bl_set ?_ (by first | exact Nat.le_refl _ | (simp; done) | (simp; omega)) _) | (refine bl_trans ?_ (by assumption)))⟩
    ·
      have zb2 := hb2.size
      simp at zb2 hgB0
      go_loopg [4] r.length (fun m s wr => ∃ k A' c' v, 3 * k ≤ r.length ∧ m = r.length - 3 * k ∧ s = .slice A' (r.length - 3 * k) c' ∧ r.length - 3 * k ≤ c' ∧ (0 < r.length - 3 * k → A' = some ⟨g, 1 + 3 * k, none⟩) ∧ wr.heap[w2.heap.size]? = some (.cells #[.int .i64 J, v] 32 (0, 0)) ∧ wr.ownsRow (w2.heap.size + 1) 55 3 v k (ints (tri r k)) ∧ wr.heap[w.heap.size]? = some (.cells #[.int .i64 0, .slice none 0 0] 32 (0, 0)) ∧ wr.heap[g]? = some (.cells cur T (0, 0)) ∧ Below w.heap.size w wr)
      case atStart => first
        | exact ⟨0, some ⟨g, 1, none⟩, c0 - 1, .slice none 0 0, by omega, by omega, rfl, by simp at hc0; omega, fun _ => rfl, heap_alloc_new _ _, World.ownsRow_nil _ _ _ _, blk_old kr2, blk_old kg2, by repeat (first | exact Below.refl _ _ | assumption | apply bl_alloc | apply bl_drewN | apply Below.drew | (refine bl_set ?_ (by first | exact Nat.le_refl _ | (simp; done) | (simp; omega)) _) | (refine bl_trans ?_ (by assumption)))⟩
        | exact ⟨0, some ⟨g, 0, none⟩, 0, .slice none 0 0, by omega, by omega, (by first | rfl | (simp at hc0 ⊢; done) | (simp at hc0 ⊢; omega)), by simp at hc0; omega, (fun h => by simp at hc0; omega), heap_alloc_new _ _, World.ownsRow_nil _ _ _ _, blk_old kr2, blk_old kg2, by repeat (first | exact Below.refl _ _ | assumption | apply bl_alloc | apply bl_drewN | apply Below.drew | (refine bl_set ?_ (by first | exact Nat.le_refl _ | (simp; done) | (simp; omega)) _) | (refine bl_trans ?_ (by assumption)))⟩
      case round =>
        clear kr2 kg2 c00 r0 r1 rf0 rf1 rl hown hc0 hn0
        obtain ⟨k, A', c', v, hk, hgk, rfl, hc', hA', kn, hown3, kr, kg, hb⟩ := hrel
        have HGK := Lib.hid hgk
        have hlk := blk_lt kn
        clear hgk
        by_cases hlt : 3 ≤ r.length - 3 * k
        · have hgl := blk_lt kg
          obtain rfl := hA' (by omega)
          obtain ⟨a, ha⟩ : ∃ a, dF r k = a := ⟨_, rfl⟩
          obtain ⟨b, hb'⟩ : ∃ b, dT r k = b := ⟨_, rfl⟩
          obtain ⟨f, hf⟩ : ∃ f, dW r k = f := ⟨_, rfl⟩
          have HTN := Lib.hid (show tri r (k + 1) = tri r k ++ [a, b, f] by rw [tri_next, ha, hb', hf])
          have ca : cur[1 + 3 * k]? = some (.int .i64 a) := by rw [hcur _ (by simp; omega), ← ha, dF, show 1 + 3 * k = k * 3 + 1 by omega, gt_cons]
          have cb : cur[1 + 3 * k + 1]? = some (.int .i64 b) := by rw [hcur _ (by simp; omega), ← hb', dT, show 1 + 3 * k + 1 = k * 3 + 1 + 1 by omega, gt_cons]
          have cf : cur[1 + 3 * k + 2]? = some (.int .i64 f) := by rw [hcur _ (by simp; omega), ← hf, dW, show 1 + 3 * k + 2 = k * 3 + 2 + 1 by omega, gt_cons]
          have g1 : wr.cell? ⟨g, 1 + 3 * k, none⟩ = some (.int .i64 a) := (cell_of_row wr g _ _ _ (0, 0) kg).trans ca
          have g2 : wr.cell? ⟨g, 1 + 3 * k + 1, none⟩ = some (.int .i64 b) := (cell_of_row wr g _ _ _ (0, 0) kg).trans cb
          have g3 : wr.cell? ⟨g, 1 + 3 * k + 2, none⟩ = some (.int .i64 f) := (cell_of_row wr g _ _ _ (0, 0) kg).trans cf
          obtain ⟨x0, x1, xf0, xf1, xl⟩ := cells_two kn (Below.refl _ _)
          have j0 : 0 < r.length - 3 * k := by omega
          have j1 : (1 : Int) < ((r.length - 3 * k : Nat) : Int) := by omega
          have j2 : (2 : Int) < ((r.length - 3 * k : Nat) : Int) := by omega
          clear hA' ha hb' hf hcur
          go_wp2
          refine region_cutH (S := fun w' => w'.cell? ⟨w2.heap.size, 1, none⟩ = some v ∧ w'.cell? ⟨g, 1 + 3 * k, none⟩ = some (.int .i64 a) ∧ w'.cell? ⟨g, 1 + 3 * k + 1, none⟩ = some (.int .i64 b) ∧ w'.cell? ⟨g, 1 + 3 * k + 2, none⟩ = some (.int .i64 f)) 14 (by kernel_rfl) (by kernel_rfl) ?hS33 (fun hHeld => ?hR33)
          case hS33 => (((try dsimp only); refine ⟨?_, ?_, ?_, ?_⟩ <;> (repeat (first | with_reducible assumption | with_reducible refine kc_drew ?_ | with_reducible refine kc_drewN ?_ | with_reducible refine kc_alloc ?_ | with_reducible refine kc_set ?_ (by first | omega | (simp; done) | (simp; omega))))))
          simp only [List.take_succ_cons, List.take_zero, List.drop_succ_cons, List.drop_zero]
          refine wpAnyH_take (i := 0) (v := ?hv34) rfl (by kernel_rfl) (by kernel_rfl) (by kernel_rfl) (fun _ _ _ h => h) (Or.inl ⟨by rfl, ?hy34⟩) (by assumption) ?hR34
          case hy34 => (intro wq hSw; (try dsimp only at hSw); go_simp; (try with_reducible rfl))
          simp only [Act.put, List.setIfInBounds_toArray, List.set_cons_zero, List.set_cons_succ]
          refine wpAnyH_take (i := 1) (v := ?hv35) rfl (by kernel_rfl) (by kernel_rfl) (by kernel_rfl) (fun _ _ _ h => h) (Or.inl ⟨by rfl, ?hy35⟩) (by assumption) ?hR35
          case hy35 => (intro wq hSw; (try dsimp only at hSw); go_simp; (try with_reducible rfl))
          simp only [Act.put, List.setIfInBounds_toArray, List.set_cons_zero, List.set_cons_succ]
          refine wpAnyH_take (i := 2) (v := ?hv36) rfl (by kernel_rfl) (by kernel_rfl) (by kernel_rfl) (fun _ _ _ h => h) (Or.inl ⟨by rfl, ?hy36⟩) (by assumption) ?hR36
          case hy36 => (intro wq hSw; (try dsimp only at hSw); go_simp; (try with_reducible rfl))
          simp only [Act.put, List.setIfInBounds_toArray, List.set_cons_zero, List.set_cons_succ]
          refine wpAnyH_take (i := 3) (v := ?hv37) rfl (by kernel_rfl) (by kernel_rfl) (by kernel_rfl) (fun _ _ _ h => h) (Or.inl ⟨by rfl, ?hy37⟩) (by assumption) ?hR37
          case hy37 => (intro wq hSw; (try dsimp only at hSw); go_simp; (try with_reducible rfl))
          simp only [Act.put, List.setIfInBounds_toArray, List.set_cons_zero, List.set_cons_succ]
          refine wpAnyH_take (i := 4) (v := ?hv38) rfl (by kernel_rfl) (by kernel_rfl) (by kernel_rfl) (fun _ _ _ h => h) (Or.inl ⟨by rfl, ?hy38⟩) (by assumption) ?hR38
          case hy38 => (intro wq hSw; (try dsimp only at hSw); go_simp; (try with_reducible rfl))
          simp only [Act.put, List.setIfInBounds_toArray, List.set_cons_zero, List.set_cons_succ]
          refine wpAnyH_take (i := 5) (v := ?hv39) rfl (by kernel_rfl) (by kernel_rfl) (by kernel_rfl) (fun _ _ _ h => h) (Or.inl ⟨by rfl, ?hy39⟩) (by assumption) ?hR39
          case hy39 => (intro wq hSw; (try dsimp only at hSw); go_simp; (try with_reducible rfl))
          simp only [Act.put, List.setIfInBounds_toArray, List.set_cons_zero, List.set_cons_succ]
          refine wpAnyH_take (i := 6) (v := ?hv40) rfl (by kernel_rfl) (by kernel_rfl) (by kernel_rfl) (fun _ _ _ h => h) (Or.inl ⟨by rfl, ?hy40⟩) (by assumption) ?hR40
          case hy40 => (intro wq hSw; (try dsimp only at hSw); go_simp; (try with_reducible rfl))
          simp only [Act.put, List.setIfInBounds_toArray, List.set_cons_zero, List.set_cons_succ]
          refine wpAnyH_take (i := 7) (v := ?hv41) rfl (by kernel_rfl) (by kernel_rfl) (by kernel_rfl) (fun _ _ _ h => h) (Or.inl ⟨by rfl, ?hy41⟩) (by assumption) ?hR41
          case hy41 => (intro wq hSw; (try dsimp only at hSw); go_simp; (try with_reducible rfl))
          simp only [Act.put, List.setIfInBounds_toArray, List.set_cons_zero, List.set_cons_succ]
          refine wpAnyH_take (i := 8) (v := ?hv42) rfl (by kernel_rfl) (by kernel_rfl) (by kernel_rfl) (fun _ _ _ h => h) (Or.inl ⟨by rfl, ?hy42⟩) (by assumption) ?hR42
          case hy42 => (intro wq hSw; (try dsimp only at hSw); go_simp; (try with_reducible rfl))
          simp only [Act.put, List.setIfInBounds_toArray, List.set_cons_zero, List.set_cons_succ]
          refine wpAnyH_take (i := 9) (v := ?hv43) rfl (by kernel_rfl) (by kernel_rfl) (by kernel_rfl) (fun _ _ _ h => h) (Or.inl ⟨by rfl, ?hy43⟩) (by assumption) ?hR43
          case hy43 => (intro wq hSw; (try dsimp only at hSw); go_simp; (try with_reducible rfl))
          simp only [Act.put, List.setIfInBounds_toArray, List.set_cons_zero, List.set_cons_succ]
          refine wpAnyH_take (i := 10) (v := ?hv44) rfl (by kernel_rfl) (by kernel_rfl) (by kernel_rfl) (fun _ _ _ h => h) (Or.inl ⟨by rfl, ?hy44⟩) (by assumption) ?hR44
          case hy44 => (intro wq hSw; (try dsimp only at hSw); go_simp; (try with_reducible rfl))
          simp only [Act.put, List.setIfInBounds_toArray, List.set_cons_zero, List.set_cons_succ]
          refine wpAnyH_take (i := 11) (v := ?hv45) rfl (by kernel_rfl) (by kernel_rfl) (by kernel_rfl) (fun _ _ _ h => h) (Or.inl ⟨by rfl, ?hy45⟩) (by assumption) ?hR45
          case hy45 => (intro wq hSw; (try dsimp only at hSw); go_simp; (try with_reducible rfl))
          simp only [Act.put, List.setIfInBounds_toArray, List.set_cons_zero, List.set_cons_succ]
          refine wpAnyH_ready (rs := [12]) (by kernel_rfl) (by simp) (AllReadyH.cons rfl (fun K hK => ?hR46) AllReadyH.nil)
          go_simp
          clear hHeld
          refine hK.out _ _ ?hS46 (fun hHeld => ?hT46)
          case hS46 => (((try dsimp only); refine ⟨?_, ?_, ?_, ?_⟩ <;> (repeat (first | with_reducible assumption | with_reducible refine kc_drew ?_ | with_reducible refine kc_drewN ?_ | with_reducible refine kc_alloc ?_ | with_reducible refine kc_set ?_ (by first | omega | (simp; done) | (simp; omega))))))
          clear hK K
          (try simp only [Act.put, List.setIfInBounds_toArray, List.set_cons_zero, List.set_cons_succ])
          refine wpAnyH_ready (rs := [13]) (by kernel_rfl) (by simp) (AllReadyH.cons rfl (fun K hK => ?hR47) AllReadyH.nil)
          refine step_append_lies _ (by rfl) _ _ _ (by rfl) (w2.heap.size + 1) 55 i0 (.agg #[.int .i64 0, .int .i64 0, .int .i64 0]) 3 24 Tryd.underlying30 hi hz0 hz1 hz2 rfl (by decide) v k (ints (tri r k)) (by rfl) ((own_drew hown3).alloc (.cells #[.int .i64 a, .int .i64 b, .int .i64 f] 55)) ⟨wr.heap.size, 0, none⟩ 1 1 [.int .i64 a, .int .i64 b, .int .i64 f] (by rfl) (by rfl) (World.news_of_block (cs := #[.int .i64 a, .int .i64 b, .int .i64 f]) (t := 55) (fr := (0, 0)) (heap_alloc_new wr.drew _)) (by simp [Value.oneCell']) (by omega) (by unfold maxLen; omega) (by omega) (by simp; omega) (wr.heap.size + 1) (by first | rfl | (simp; done)) ?_
          intro g2 cap2 w6 hown2 hgrow2 hat2 hlt2
          have kn6 := app_keep ((own_drew hown3).alloc (.cells #[.int .i64 a, .int .i64 b, .int .i64 f] 55)) hgrow2 (blk_old (blk_drew kn)) (by omega)
          have kr6 := app_keep ((own_drew hown3).alloc (.cells #[.int .i64 a, .int .i64 b, .int .i64 f] 55)) hgrow2 (blk_old (blk_drew kr)) (by omega)
          have kg6 := app_keep ((own_drew hown3).alloc (.cells #[.int .i64 a, .int .i64 b, .int .i64 f] 55)) hgrow2 (blk_old (blk_drew kg)) (by omega)
          obtain ⟨m0, m1, mf0, mf1, ml⟩ := cells_two kn6 (Below.refl _ _)
          have R6 := Lib.hid (app_belowB (bl_alloc (Below.drew hb) (.cells #[.int .i64 a, .int .i64 b, .int .i64 f] 55)) ((own_drew hown3).alloc (.cells #[.int .i64 a, .int .i64 b, .int .i64 f] 55)) (by omega) hgrow2)
          have own6 := Lib.hid (show w6.ownsRow (w2.heap.size + 1) 55 3 (.slice (some ⟨g2, 0, none⟩) (k + 1) cap2) (k + 1) (ints (tri r (k + 1))) from (by rw [← ints_three HTN.out]; exact hown2))
          have hgB : w2.heap.size < g2 := own_geB hown2
          have c1_6 : w6.cell? ⟨g, 1 + 3 * k, none⟩ = some (.int .i64 a) := (cell_of_row w6 g _ _ _ (0, 0) kg6).trans ca
          have c2_6 : w6.cell? ⟨g, 1 + 3 * k + 1, none⟩ = some (.int .i64 b) := (cell_of_row w6 g _ _ _ (0, 0) kg6).trans cb
          have c3_6 : w6.cell? ⟨g, 1 + 3 * k + 2, none⟩ = some (.int .i64 f) := (cell_of_row w6 g _ _ _ (0, 0) kg6).trans cf
          clear hHeld
          refine hK.out _ _ ?hS47 (fun hHeld => ?hT47)
          case hS47 => (((try dsimp only); refine ⟨?_, ?_, ?_, ?_⟩ <;> (repeat (first | with_reducible assumption | with_reducible refine kc_drew ?_ | with_reducible refine kc_drewN ?_ | with_reducible refine kc_alloc ?_ | with_reducible refine kc_set ?_ (by first | omega | (simp; done) | (simp; omega))))))
          clear hK K
          (try simp only [Act.put, List.setIfInBounds_toArray, List.set_cons_zero, List.set_cons_succ])
          refine wpAnyH_done (by kernel_rfl) ?hR48 _
          show wpList _ _ _ _ _ _
          have K9 := Lib.hid (heap_setCell_same _ _ 1 _ _ (.slice (some ⟨g2, 0, none⟩) (k + 1) cap2) kn6)
          have O9 := Lib.hid (own_setCell (p := ⟨w2.heap.size, 1, none⟩) own6.out (fun g hg => by simp [Value.ownBlock] at hg; subst hg; show _ ≠ w2.heap.size; omega) (.slice (some ⟨g2, 0, none⟩) (k + 1) cap2))
          have kr9 := Lib.hid (kb_set (p := ⟨w2.heap.size, 1, none⟩) (u := .slice (some ⟨g2, 0, none⟩) (k + 1) cap2) kr6 (by first | omega | (simp; done) | (simp; omega)))
          have kg9 := Lib.hid (kb_set (p := ⟨w2.heap.size, 1, none⟩) (u := .slice (some ⟨g2, 0, none⟩) (k + 1) cap2) kg6 (by first | omega | (simp; done) | (simp; omega)))
          have R9 := Lib.hid (bl_set (p := ⟨w2.heap.size, 1, none⟩) R6.out (by first | omega | (simp; done) | (simp; omega)) (.slice (some ⟨g2, 0, none⟩) (k + 1) cap2))
          by_cases hc2 : c' = 3
          · obtain rfl := hc2
            go_wp2
            go_roundg (r.length - 3 * (k + 1))
            case measure => rw [HGK.out]; omega
            case rel => exact ⟨k + 1, some ⟨g, 1 + 3 * k, none⟩, 0, _, by omega, rfl, by rw [show r.length - 3 * (k + 1) = 0 by omega], by omega, fun h => absurd h (by omega), K9.out, O9.out, kr9.out, kg9.out, R9.out⟩
          · go_wp2
            go_roundg (r.length - 3 * (k + 1))
            case measure => rw [HGK.out]; omega
            case rel => exact ⟨k + 1, some ⟨g, 1 + 3 * (k + 1), none⟩, c' - 3, _, by omega, rfl, by first | rfl | (simp [Nat.mul_add]; omega), by omega, fun _ => rfl, K9.out, O9.out, kr9.out, kg9.out, R9.out⟩
        · have hk2 : r.length / 3 = k := by omega
          obtain ⟨A, c, rfl, hnc, ho⟩ := own_form3 hown3 (tri_len r k)
          have HO := Lib.hid ho
          have HTL := Lib.hid (tri_len r k)
          obtain ⟨n0, n1, nf0, nf1, nl⟩ := cells_two kn (Below.refl _ _)
          obtain ⟨r0, r1, rf0, rf1, rl⟩ := cells_two kr (Below.refl _ _)
          have HI2 := Lib.hid (in_yes HNN.out)
          rw [hk2] at HI2
          have HVC := Lib.hid (fun (b : Bool) (hv : netOk J k (tri r k) = b) => (by
            have h := implValidNet wr J A k c (tri r k) HO.out.rc HTL.out (by omega)
            rw [hv] at h
            exact h : Calls Tryd.prog 32 #[.agg #[.int .i64 J, .slice A k c]] wr fun e w' => e = .returned (.bool b) ∧ Below wr.heap.size wr w'))
          have HTC := Lib.hid (fun (W : World) (hW : Below wr.heap.size wr W) (tx : List UInt8) (hx : ntText J k (tri r k) = tx) => (by
            have hRW := HRD.out.below (hb.trans (hW.mono hb.size))
            have h := implNetText W J A k c (tri r k) B hRW.hb hRW.pow (HO.out.rc.below hW) HTL.out (by omega)
            rw [hx] at h
            exact h : Calls Tryd.prog 33 #[.agg #[.int .i64 J, .slice A k c]] W fun e w' => e = .returned (.string ⟨tx.toArray⟩) ∧ Below W.heap.size W w'))
          clear ho hown3 hk2
          cases hv : netOk J k (tri r k)
          · have HV5 := HVC.out _ hv
            have H := Lib.hid (show rnB l = false by rw [← HIC.out, HI2.out, hv]; rfl)
            have HD := Lib.hid (rnn_no H.out)
            clear hv
            go_wp2_with (go_at_call 32; refine HV5.mono ?_; rintro e w4 ⟨rfl, hb4⟩; have kn4 := keep_blk (hb := hb4) (h := kn); have kr4 := keep_blk (hb := hb4) (h := kr); obtain ⟨n0, n1, nf0, nf1, nl⟩ := cells_two kn4 (Below.refl _ _); obtain ⟨r0, r1, rf0, rf1, rl⟩ := cells_two kr4 (Below.refl _ _))
            refine bodyPost_ret (v := .tuple #[.agg #[.int .i64 0, .slice none 0 0], .bool false]) (by simp [results, Tryd.results12, go_sem, r0, r1]) rfl ?_
            rw [H.out, HD.out.1, HD.out.2.1]
            exact ⟨none, 0, rfl, by rw [HD.out.2.2]; exact OwnC.nil _ _ _ _, by repeat (first | exact Below.refl _ _ | assumption | apply bl_alloc | apply bl_drewN | apply Below.drew | (refine bl_set ?_ (by first | exact Nat.le_refl _ | (simp; done) | (simp; omega)) _) | (refine bl_trans ?_ (by assumption)))⟩
          · have HV5 := HVC.out _ hv
            by_cases ht : ntText J k (tri r k) = l
            · have H := Lib.hid (show rnB l = true by rw [← HIC.out, HI2.out, hv, ht]; simp)
              have HD := Lib.hid (rnn_yes H.out)
              have HS := Lib.hid (in_same H.out)
              have HT5 := fun W hW => HTC.out W hW l ht
              clear hv ht
              go_wp2_with (first | (go_at_call 32; refine HV5.mono ?_; rintro e w4 ⟨rfl, hb4⟩; have kn4 := keep_blk (hb := hb4) (h := kn); have kr4 := keep_blk (hb := hb4) (h := kr); obtain ⟨n0, n1, nf0, nf1, nl⟩ := cells_two kn4 (Below.refl _ _); obtain ⟨r0, r1, rf0, rf1, rl⟩ := cells_two kr4 (Below.refl _ _)) | (go_at_call 33; refine (HT5 _ hb4).mono ?_; rintro e w5 ⟨rfl, hb5⟩; have kn5 := keep_blk (hb := hb5) (h := kn4); have kr5 := keep_blk (hb := hb5) (h := kr4); obtain ⟨n0, n1, nf0, nf1, nl⟩ := cells_two kn5 (Below.refl _ _); obtain ⟨r0, r1, rf0, rf1, rl⟩ := cells_two kr5 (Below.refl _ _)))
              refine bodyPost_ret (v := .tuple #[.agg #[.int .i64 J, .slice A k c], .bool true]) (by simp [results, Tryd.results12, go_sem, r0, r1]) rfl ?_
              obtain ⟨J', r', hn, h1, h2, h3⟩ := HS.out
              rw [HNN.out] at hn
              cases hn
              rw [show r.length / 3 = k by omega] at h2 h3
              rw [H.out, HD.out.1, HD.out.2.1, ← h1, ← h2]
              have z4 := hb4.size
              have z5 := hb5.size
              have zr := hb.size
              exact ⟨_, _, rfl, by rw [HD.out.2.2, ← h3]; exact (((HO.out.below (bl_trans hb4 hb5)).far (.inl (by first | omega | (simp; done) | (simp; omega))) _).far (.inl (by first | omega | (simp; done) | (simp; omega))) _).wide (by omega) (by simp; omega), by repeat (first | exact Below.refl _ _ | assumption | apply bl_alloc | apply bl_drewN | apply Below.drew | (refine bl_set ?_ (by first | exact Nat.le_refl _ | (simp; done) | (simp; omega)) _) | (refine bl_trans ?_ (by assumption)))⟩
            · obtain ⟨tx, hx⟩ : ∃ tx, ntText J k (tri r k) = tx := ⟨_, rfl⟩
              have H := Lib.hid (show rnB l = false by rw [← HIC.out, HI2.out, hv]; simp [ht])
              have HD := Lib.hid (rnn_no H.out)
              have HT5 := fun W hW => HTC.out W hW tx hx
              rw [hx] at ht
              have ht3 : (tx == l) = false := by simpa using ht
              clear hv hx ht
              go_wp2_with (first | (go_at_call 32; refine HV5.mono ?_; rintro e w4 ⟨rfl, hb4⟩; have kn4 := keep_blk (hb := hb4) (h := kn); have kr4 := keep_blk (hb := hb4) (h := kr); obtain ⟨n0, n1, nf0, nf1, nl⟩ := cells_two kn4 (Below.refl _ _); obtain ⟨r0, r1, rf0, rf1, rl⟩ := cells_two kr4 (Below.refl _ _)) | (go_at_call 33; refine (HT5 _ hb4).mono ?_; rintro e w5 ⟨rfl, hb5⟩; have kn5 := keep_blk (hb := hb5) (h := kn4); have kr5 := keep_blk (hb := hb5) (h := kr4); obtain ⟨n0, n1, nf0, nf1, nl⟩ := cells_two kn5 (Below.refl _ _); obtain ⟨r0, r1, rf0, rf1, rl⟩ := cells_two kr5 (Below.refl _ _)))
              refine bodyPost_ret (v := .tuple #[.agg #[.int .i64 0, .slice none 0 0], .bool false]) (by simp [results, Tryd.results12, go_sem, r0, r1]) rfl ?_
              rw [H.out, HD.out.1, HD.out.2.1]
              exact ⟨none, 0, rfl, by rw [HD.out.2.2]; exact OwnC.nil _ _ _ _, by repeat (first | exact Below.refl _ _ | assumption | apply bl_alloc | apply bl_drewN | apply Below.drew | (refine bl_set ?_ (by first | exact Nat.le_refl _ | (simp; done) | (simp; omega)) _) | (refine bl_trans ?_ (by assumption)))⟩

end Go.Proofs.YtcjfdfjimcapkaaDoor
