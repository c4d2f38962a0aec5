/-
  Contract on sharing out: the program's. It holds for at most 60 weights from 0 to 1000000000, not all 0, and a total of that size.
-/
import Derived.Test.YtddmgjcepkimbaaSel
import Derived.Test.YtddmgjcepkimbaaPairT
import Derived.Test.YtddmgjcepkimbaaCut
import Derived.Lib.OwnBridge
import Derived.Deep.QuietTactic
import Derived.Deep.RegionHeld3
namespace Go.Proofs.Ytddmgjcepkimbaa
set_option linter.unusedVariables false
set_option linter.unusedSimpArgs false
open Go.RowKit

open Go.Shelf Go.Lib Go.Sort
theorem infoNat : (Try.prog.info? 3).map (fun i => (i.zero, i.size, i.bytes)) = some (some (.int .i64 0), 1, 8) := by kernel_rfl
def idL (k : Nat) : List Int := (List.range k).map fun i : Nat => (i : Int)
theorem idL_len (k : Nat) : (idL k).length = k := by simp [idL]
theorem idL_next (k : Nat) : idL (k + 1) = idL k ++ [(k : Int)] := by simp [idL, List.range_succ]
theorem ownT_start (W : World) {T U g : Nat} {c : Array Value} {t : TypeId} (hg : W.heap.size = g) :
    OwnT (((W.alloc (.cells #[] T)).alloc (.cells #[] U)).alloc (.cells c t)) g (g + 2) T U (.slice (some ⟨g, 0, none⟩) 0 0) [] (.slice (some ⟨g + 1, 0, none⟩) 0 0) [] := by
  subst hg
  have h1 : (W.alloc (.cells #[] T)).ownsRow W.heap.size T 1 (.slice (some ⟨W.heap.size, 0, none⟩) 0 0) 0 (ints []) := own_litB T W.heap.size (Nat.le_refl _)
  have h2 := own_litB (W := W.alloc (.cells #[] T)) U W.heap.size (by simp)
  refine ⟨(h1.alloc _).alloc _, by simpa using h2.alloc _, fun g hg hu => ?_, fun g hg => ?_, fun g hg => ?_, by simp⟩
  all_goals simp [Value.ownBlock] at *
  all_goals omega
theorem new2S (W : World) (o1 o2 : Obj) : ((W.alloc o1).alloc o2).heap[W.heap.size + 1]? = some o2 := by simpa using heap_alloc_new (W.alloc o1) o2
theorem newkeepT {W W1 w1 : World} {B K T U j : Nat} {v u : Value} {xs ys : List Int} {o : Obj} (h : OwnT W B K T U v xs u ys) (hg : W1.grownBy w1 v.ownBlock) (hk : W1.heap[j]? = some o) (hj : W.heap.size ≤ j) : w1.heap[j]? = some o :=
  (hg.block j (Array.getElem?_eq_some_iff.1 hk).1 (fun e => by
    have := (h.a.lt j e.symm).2
    omega)).trans hk
theorem sw_block {α : Type} [Inhabited α] {enc : α → Value} {w0 W : World} {blk off : Nat} {dk : Array α} {j : Nat} (h : SW enc w0 blk off dk W) (hj : j < w0.heap.size) (hne : j ≠ blk) : W.heap[j]? = w0.heap[j]? := by
  obtain ⟨n, os, rfl⟩ := h
  unfold sortWorld
  rw [Sort.heap_grow_old _ _ (by rw [Sort.size_putRow]; exact hj)]
  simp [putRow, mapBlock, Sort.ahead, Array.getElem?_modify, Ne.symm hne]
theorem sw_below {α : Type} [Inhabited α] {enc : α → Value} {w0 W w : World} {blk : Nat} {dk : Array α} {B : Nat} (h : SW enc w0 blk 0 dk W) (hb : Below B w w0) (hg : B ≤ blk) (hB : B ≤ w0.heap.size) : Below B w W := by
  obtain ⟨n, os, rfl⟩ := h
  unfold sortWorld
  have h1 := below_putRow (enc := enc) (q := n) (d := dk) hb hg
  exact h1.trans ⟨rfl, rfl, rfl, by rw [Sort.size_grow]; omega, fun _ hk => Sort.heap_grow_old _ _ (by rw [Sort.size_putRow]; exact Nat.lt_of_lt_of_le hk hB)⟩
theorem shF_bd {T s : Int} {ws : List Int} {P : Nat → Nat} (h : ∀ i, i < ws.length → 0 ≤ quo T s ws i ∧ quo T s ws i ≤ 1000000000) : ∀ k i, i < ws.length → 0 ≤ shF T s ws P k i ∧ shF T s ws P k i ≤ 1000000000 + (k : Int)
  | 0, i, hi => by have := h i hi; rw [shF]; omega
  | k + 1, i, hi => by
    have := shF_bd (P := P) h k i hi
    rw [shF]
    split <;> omega
set_option maxRecDepth 100000 in
set_option maxHeartbeats 1600000 in
theorem shareOut_any (w : World) (A : Option Addr) (cw : Nat) (ws : List Int) (T s : Int) (hA : RC w A (ints ws)) (h1 : 1 ≤ ws.length) (h60 : ws.length ≤ 60) (hT : 0 ≤ T ∧ T ≤ 1000000000) (hs1 : 1 ≤ s) (hs2 : s ≤ 1000000000) (hb : ∀ k, k < ws.length → 0 ≤ gt ws k ∧ gt ws k ≤ s) (hsum : sumTo ws ws.length = s) :
    Calls Try.prog 15 #[.int .i64 T, .slice A ws.length cw] w (NewInts (shL T s ws) w) := by
  have HA := Lib.hid hA
  have HB := Lib.hid hb
  have HSM := Lib.hid hsum
  have HSA := Lib.hid (fun (W : World) (hW : RC W A (ints ws)) => (by
    have h := sum_any W A cw ws hW (by omega) (fun i hi => by have := hb i hi; omega)
    rw [hsum] at h
    exact h : Calls Try.prog 14 #[.slice A ws.length cw] W fun e w' => e = .returned (.int .i64 s) ∧ W = w'))
  obtain ⟨i0, hi, hz0, hz1, hz2⟩ := info_parts infoInt
  obtain ⟨j0, hj, hy0, hy1, hy2⟩ := info_parts infoNat
  clear hA hb hsum
  go_enter Try.func15, Try.ntmps15
  go_wp2_with (go_at_call 14; refine (HSA.out _ (HA.out.below (by repeat (first | exact Below.refl _ _ | assumption | apply bl_alloc | apply bl_drewN | apply Below.drew | (refine bl_set ?_ (by first | exact Nat.le_refl _ | (simp; done) | (simp; omega)) _) | (refine bl_trans ?_ (by assumption)))))).mono ?_; rintro e w' ⟨rfl, rfl⟩)
  go_loopg [6, 18] ws.length (fun gm v6 v18 wr => ∃ i A1 c1 A2 c2, i ≤ ws.length ∧ gm = ws.length - i ∧ v6 = .slice A1 i c1 ∧ v18 = .int .i64 (i : Int) ∧ wr.heap[(w.heap.size + 1 + 1 + 1 + 1 + 1)]? = some (.cells #[.slice A2 i c2] 35 (0, 0)) ∧ OwnT wr (w.heap.size + 1 + 1 + 1) (w.heap.size + 1 + 1 + 1 + 1 + 1) 2 3 (.slice A1 i c1) (quL T s ws i) (.slice A2 i c2) (idL i) ∧ wr.heap[w.heap.size]? = some (.cells #[.int .i64 T] 2 (0, 0)) ∧ wr.heap[(w.heap.size + 1)]? = some (.cells #[.slice A ws.length cw] 22 (0, 0)) ∧ wr.heap[(w.heap.size + 1 + 1)]? = some (.cells #[.int .i64 s] 2 (0, 0)) ∧ Below w.heap.size w wr ∧ (w.heap.size + 1 + 1 + 1 + 1 + 1) < wr.heap.size)
  case atStart => exact ⟨0, some ⟨(w.heap.size + 1 + 1 + 1), 0, none⟩, 0, some ⟨w.heap.size + 4, 0, none⟩, 0, Nat.zero_le _, rfl, rfl, rfl, by repeat (first | (refine blk_new ?_; (first | rfl | (simp; done) | (simp; omega))) | refine blk_drewN ?_ | refine blk_old ?_), ownT_start _ (by simp), by repeat (first | (refine blk_new ?_; (first | rfl | (simp; done) | (simp; omega))) | refine blk_drewN ?_ | refine blk_old ?_), by repeat (first | (refine blk_new ?_; (first | rfl | (simp; done) | (simp; omega))) | refine blk_drewN ?_ | refine blk_old ?_), by repeat (first | (refine blk_new ?_; (first | rfl | (simp; done) | (simp; omega))) | refine blk_drewN ?_ | refine blk_old ?_), by repeat (first | exact Below.refl _ _ | assumption | apply bl_alloc | apply bl_drewN | apply Below.drew | (refine bl_set ?_ (by first | exact Nat.le_refl _ | (simp; done) | (simp; omega)) _) | (refine bl_trans ?_ (by assumption))), by first | omega | (simp; done) | (simp; omega)⟩
  case round =>
    obtain ⟨i, A1, c1, A2, c2, hi', hgk, rfl, rfl, ko, hO, kt, kw, ks, hbl, hsz⟩ := hrel
    have HGK := Lib.hid hgk
    clear hgk
    by_cases hlt : i < ws.length
    · obtain ⟨b, off, rfl, hbw, hcell⟩ := HA.out (by rw [ints_len]; omega)
      have gx := hcell i (by rw [ints_len]; exact hlt)
      rw [ints_get ws i hlt] at gx
      have bx := HB.out i hlt
      have qb := quo_bd (T := T) (s := s) (ws := ws) (k := i) hT hs1 bx
      obtain ⟨X, hX⟩ : ∃ X, gt ws i = X := ⟨_, rfl⟩
      obtain ⟨Z, hZ⟩ : ∃ Z, quo T s ws i = Z := ⟨_, rfl⟩
      have hQ : T * X / s = Z := by rw [← hZ, quo, hX]
      rw [hX] at gx bx
      rw [hZ] at qb
      have gx3 := cell_b hbl gx
      have p1 : 0 ≤ T * X ∧ T * X ≤ 1000000000 * 1000000000 := ⟨Int.mul_nonneg hT.1 bx.1, Int.mul_le_mul hT.2 (by omega) bx.1 (by omega)⟩
      have q1 := IntWalk.i64_in (T * X) (by omega)
      have q2 : IntKind.i64.wrap ((T * X).tdiv s) = Z := by rw [Int.tdiv_eq_ediv_of_nonneg p1.1, hQ]; exact IntWalk.i64_in Z (by omega)
      have hs0 : (s == 0) = false := by simp; omega
      have hs3 : ¬ s = 0 := by omega
      obtain ⟨xt, _⟩ := row_one kt
      obtain ⟨xs, _⟩ := row_one ks
      obtain ⟨xo, xol⟩ := row_one ko
      have HLN := Lib.hid (quL_len T s ws i)
      have HRN := Lib.hid (idL_len i)
      have HLS := Lib.hid (show quL T s ws (i + 1) = quL T s ws i ++ [Z] by rw [quL_next, hZ])
      have HRS := Lib.hid (idL_next i)
      have hO := Lib.hid hO
      have ko3 := Lib.hid ko
      have kt3 := Lib.hid kt
      have kw3 := Lib.hid kw
      have ks3 := Lib.hid ks
      have zr := hbl.size
      clear hX hZ hcell ko kt kw ks
      go_wp2
      refine region_cutH (S := fun w' => w'.cell? ⟨w.heap.size, 0, none⟩ = some (.int .i64 T) ∧ w'.cell? ⟨(w.heap.size + 1 + 1), 0, none⟩ = some (.int .i64 s) ∧ w'.cell? ⟨(w.heap.size + 1 + 1 + 1 + 1 + 1), 0, none⟩ = some (.slice A2 i c2)) 12 (by kernel_rfl) (by kernel_rfl) ?hS1 (fun hHeld => ?hR1)
      case hS1 => (((try dsimp only); refine ⟨?_, ?_, ?_⟩ <;> (repeat (first | with_reducible assumption | with_reducible refine kc_drew ?_ | with_reducible refine kc_drewN ?_ | with_reducible refine kc_alloc ?_ | with_reducible refine kc_set ?_ (by first | omega | (simp; done) | (simp; omega))))))
      simp only [List.take_succ_cons, List.take_zero, List.drop_succ_cons, List.drop_zero]
      refine wpAnyH_take (i := 0) (v := ?hv2) rfl (by kernel_rfl) (by kernel_rfl) (by kernel_rfl) (fun _ _ _ h => h) (Or.inl ⟨by rfl, ?hy2⟩) (by assumption) ?hR2
      case hy2 => (intro wq hSw; (try dsimp only at hSw); go_simp; (try with_reducible rfl))
      simp only [Act.put, List.setIfInBounds_toArray, List.set_cons_zero, List.set_cons_succ]
      refine wpAnyH_take (i := 1) (v := ?hv3) rfl (by kernel_rfl) (by kernel_rfl) (by kernel_rfl) (fun _ _ _ h => h) (Or.inl ⟨by rfl, ?hy3⟩) (by assumption) ?hR3
      case hy3 => (intro wq hSw; (try dsimp only at hSw); go_simp; (try with_reducible rfl))
      simp only [Act.put, List.setIfInBounds_toArray, List.set_cons_zero, List.set_cons_succ]
      refine wpAnyH_take (i := 2) (v := ?hv4) rfl (by kernel_rfl) (by kernel_rfl) (by kernel_rfl) (fun _ _ _ h => h) (Or.inl ⟨by rfl, ?hy4⟩) (by assumption) ?hR4
      case hy4 => (intro wq hSw; (try dsimp only at hSw); go_simp; (try with_reducible rfl))
      simp only [Act.put, List.setIfInBounds_toArray, List.set_cons_zero, List.set_cons_succ]
      refine wpAnyH_take (i := 3) (v := ?hv5) rfl (by kernel_rfl) (by kernel_rfl) (by kernel_rfl) (fun _ _ _ h => h) (Or.inl ⟨by rfl, ?hy5⟩) (by assumption) ?hR5
      case hy5 => (intro wq hSw; (try dsimp only at hSw); go_simp; (try with_reducible rfl))
      simp only [Act.put, List.setIfInBounds_toArray, List.set_cons_zero, List.set_cons_succ]
      refine wpAnyH_take (i := 4) (v := ?hv6) rfl (by kernel_rfl) (by kernel_rfl) (by kernel_rfl) (fun _ _ _ h => h) (Or.inl ⟨by rfl, ?hy6⟩) (by assumption) ?hR6
      case hy6 => (intro wq hSw; (try dsimp only at hSw); go_simp; (try with_reducible rfl))
      simp only [Act.put, List.setIfInBounds_toArray, List.set_cons_zero, List.set_cons_succ]
      refine wpAnyH_take (i := 5) (v := ?hv7) rfl (by kernel_rfl) (by kernel_rfl) (by kernel_rfl) (fun _ _ _ h => h) (Or.inl ⟨by rfl, ?hy7⟩) (by assumption) ?hR7
      case hy7 => (intro wq hSw; (try dsimp only at hSw); go_simp; (try with_reducible rfl))
      simp only [Act.put, List.setIfInBounds_toArray, List.set_cons_zero, List.set_cons_succ]
      refine wpAnyH_take (i := 8) (v := ?hv8) rfl (by kernel_rfl) (by kernel_rfl) (by kernel_rfl) (fun _ _ _ h => h) (Or.inl ⟨by rfl, ?hy8⟩) (by assumption) ?hR8
      case hy8 => (intro wq hSw; (try dsimp only at hSw); go_simp; (try with_reducible rfl))
      simp only [Act.put, List.setIfInBounds_toArray, List.set_cons_zero, List.set_cons_succ]
      refine wpAnyH_take (i := 9) (v := ?hv9) rfl (by kernel_rfl) (by kernel_rfl) (by kernel_rfl) (fun _ _ _ h => h) (Or.inl ⟨by rfl, ?hy9⟩) (by assumption) ?hR9
      case hy9 => (intro wq hSw; (try dsimp only at hSw); go_simp; (try with_reducible rfl))
      simp only [Act.put, List.setIfInBounds_toArray, List.set_cons_zero, List.set_cons_succ]
      refine wpAnyH_ready (rs := [6, 10]) (by kernel_rfl) (by simp) (AllReadyH.cons rfl (fun K hK => ?hB10_0) (AllReadyH.cons rfl (fun K hK => ?hB10_1) AllReadyH.nil))
      case hB10_0 =>
        go_simp
        clear hHeld
        refine hK.out _ _ ?hS11 (fun hHeld => ?hT11)
        case hS11 => (((try dsimp only); refine ⟨?_, ?_, ?_⟩ <;> (repeat (first | with_reducible assumption | with_reducible refine kc_drew ?_ | with_reducible refine kc_drewN ?_ | with_reducible refine kc_alloc ?_ | with_reducible refine kc_set ?_ (by first | omega | (simp; done) | (simp; omega))))))
        clear hK K
        (try simp only [Act.put, List.setIfInBounds_toArray, List.set_cons_zero, List.set_cons_succ])
        refine wpAnyH_ready (rs := [7, 10]) (by kernel_rfl) (by simp) (AllReadyH.cons rfl (fun K hK => ?hB12_0) (AllReadyH.cons rfl (fun K hK => ?hB12_1) AllReadyH.nil))
        case hB12_0 =>
          have zz := ((bl_alloc hbl.drew (.cells #[.int .i64 Z] 2))).size
          (try simp at zz)
          refine step_append_lies _ (by rfl) _ _ _ (by rfl) (w.heap.size + 1 + 1 + 1) 2 i0 (.int .i64 0) 1 8 Try.underlying22 hi hz0 hz1 hz2 rfl (by decide) (.slice A1 i c1) i (ints (quL T s ws i)) (by rfl) (((hO.out.drew.alloc (.cells #[.int .i64 Z] 2))).an HLN.out) ⟨wr.heap.size, 0, none⟩ 1 1 [.int .i64 Z] (by rfl) (by rfl) (app_news (heap_alloc_new wr.drew _)) (app_one _) (by decide) (by unfold maxLen; omega) (by omega) (by first | omega | rfl | (simp; done) | (simp; omega)) (wr.heap.size + 1) (by first | omega | rfl | (simp; done) | (simp; omega)) ?_
          intro g7 cap7 w7 hown7 hgrow7 hat7 hlt7
          have ko7 := Lib.hid (((hO.out.drew.alloc (.cells #[.int .i64 Z] 2))).keepL hgrow7 ((blk_old (blk_drew ko3.out))) (.inl rfl))
          have kt7 := Lib.hid (((hO.out.drew.alloc (.cells #[.int .i64 Z] 2))).keepL hgrow7 ((blk_old (blk_drew kt3.out))) (.inr (by omega)))
          have kw7 := Lib.hid (((hO.out.drew.alloc (.cells #[.int .i64 Z] 2))).keepL hgrow7 ((blk_old (blk_drew kw3.out))) (.inr (by omega)))
          have ks7 := Lib.hid (((hO.out.drew.alloc (.cells #[.int .i64 Z] 2))).keepL hgrow7 ((blk_old (blk_drew ks3.out))) (.inr (by omega)))
          have O7 := Lib.hid (((hO.out.drew.alloc (.cells #[.int .i64 Z] 2))).leftN HLN.out hown7 hgrow7 hat7 (by first | omega | rfl | (simp; done) | (simp; omega)) HLS.out)
          have R7 := Lib.hid (((hO.out.drew.alloc (.cells #[.int .i64 Z] 2))).belowL ((bl_alloc hbl.drew (.cells #[.int .i64 Z] 2))) (by omega) hgrow7)
          have z7 := hgrow7.size
          (try simp at z7)

          obtain ⟨xt_7, _⟩ := row_one kt7.out
          obtain ⟨xs_7, _⟩ := row_one ks7.out
          obtain ⟨xo_7, xol_7⟩ := row_one ko7.out
          have xfo_7 := frozen_of_row w7 (w.heap.size + 1 + 1 + 1 + 1 + 1) 0 _ _ ko7.out
          clear hown7 hgrow7 hat7 hlt7
          clear hHeld
          refine hK.out _ _ ?hS13 (fun hHeld => ?hT13)
          case hS13 => (((try dsimp only); refine ⟨?_, ?_, ?_⟩ <;> (repeat (first | with_reducible assumption | with_reducible refine kc_drew ?_ | with_reducible refine kc_drewN ?_ | with_reducible refine kc_alloc ?_ | with_reducible refine kc_set ?_ (by first | omega | (simp; done) | (simp; omega))))))
          clear hK K
          (try simp only [Act.put, List.setIfInBounds_toArray, List.set_cons_zero, List.set_cons_succ])
          refine wpAnyH_ready (rs := [10]) (by kernel_rfl) (by simp) (AllReadyH.cons rfl (fun K hK => ?hR14) AllReadyH.nil)
          go_simp
          clear hHeld
          refine hK.out _ _ ?hS15 (fun hHeld => ?hT15)
          case hS15 => (((try dsimp only); refine ⟨?_, ?_, ?_⟩ <;> (repeat (first | with_reducible assumption | with_reducible refine kc_drew ?_ | with_reducible refine kc_drewN ?_ | with_reducible refine kc_alloc ?_ | with_reducible refine kc_set ?_ (by first | omega | (simp; done) | (simp; omega))))))
          clear hK K
          (try simp only [Act.put, List.setIfInBounds_toArray, List.set_cons_zero, List.set_cons_succ])
          refine wpAnyH_ready (rs := [11]) (by kernel_rfl) (by simp) (AllReadyH.cons rfl (fun K hK => ?hR16) AllReadyH.nil)
          have zz := ((bl_alloc R7.out (.cells #[.int .i64 (i : Int)] 3))).size
          (try simp at zz)
          refine step_append_lies _ (by rfl) _ _ _ (by rfl) (w.heap.size + 1 + 1 + 1) 3 j0 (.int .i64 0) 1 8 Try.underlying35 hj hy0 hy1 hy2 rfl (by decide) (.slice A2 i c2) i (ints (idL i)) (by rfl) (((O7.out.alloc (.cells #[.int .i64 (i : Int)] 3))).bn HRN.out) ⟨w7.heap.size, 0, none⟩ 1 1 [.int .i64 (i : Int)] (by rfl) (by rfl) (app_news (heap_alloc_new w7 _)) (app_one _) (by decide) (by unfold maxLen; omega) (by omega) (by first | omega | rfl | (simp; done) | (simp; omega)) (w7.heap.size + 1) (by first | omega | rfl | (simp; done) | (simp; omega)) ?_
          intro g9 cap9 w9 hown9 hgrow9 hat9 hlt9
          have ko9 := Lib.hid (((O7.out.alloc (.cells #[.int .i64 (i : Int)] 3))).keepR hgrow9 ((blk_old ko7.out)) (.inl rfl))
          have kt9 := Lib.hid (((O7.out.alloc (.cells #[.int .i64 (i : Int)] 3))).keepR hgrow9 ((blk_old kt7.out)) (.inr (by omega)))
          have kw9 := Lib.hid (((O7.out.alloc (.cells #[.int .i64 (i : Int)] 3))).keepR hgrow9 ((blk_old kw7.out)) (.inr (by omega)))
          have ks9 := Lib.hid (((O7.out.alloc (.cells #[.int .i64 (i : Int)] 3))).keepR hgrow9 ((blk_old ks7.out)) (.inr (by omega)))
          have O9 := Lib.hid (((O7.out.alloc (.cells #[.int .i64 (i : Int)] 3))).rightN HRN.out hown9 hgrow9 hat9 (by first | omega | rfl | (simp; done) | (simp; omega)) HRS.out)
          have R9 := Lib.hid (((O7.out.alloc (.cells #[.int .i64 (i : Int)] 3))).belowR ((bl_alloc R7.out (.cells #[.int .i64 (i : Int)] 3))) (by omega) hgrow9)
          have z9 := hgrow9.size
          (try simp at z9)

          obtain ⟨xt_9, _⟩ := row_one kt9.out
          obtain ⟨xs_9, _⟩ := row_one ks9.out
          obtain ⟨xo_9, xol_9⟩ := row_one ko9.out
          have xfo_9 := frozen_of_row w9 (w.heap.size + 1 + 1 + 1 + 1 + 1) 0 _ _ ko9.out
          clear hown9 hgrow9 hat9 hlt9
          clear hHeld
          refine hK.out _ _ ?hS17 (fun hHeld => ?hT17)
          case hS17 => (((try dsimp only); refine ⟨?_, ?_, ?_⟩ <;> (repeat (first | with_reducible assumption | with_reducible refine kc_drew ?_ | with_reducible refine kc_drewN ?_ | with_reducible refine kc_alloc ?_ | with_reducible refine kc_set ?_ (by first | omega | (simp; done) | (simp; omega))))))
          clear hK K
          (try simp only [Act.put, List.setIfInBounds_toArray, List.set_cons_zero, List.set_cons_succ])
          refine wpAnyH_done (by kernel_rfl) ?_ _
          show wpList _ _ _ _ _ _
          clear hHeld
          have K9 := Lib.hid (heap_setCell_same _ _ 0 _ _ (.slice (some ⟨g9, 0, none⟩) (i + 1) cap9) ko9.out)
          have O9b := Lib.hid (O9.out.set 0 (.slice (some ⟨g9, 0, none⟩) (i + 1) cap9))
          have kt9b := Lib.hid (kb_set (p := ⟨(w.heap.size + 1 + 1 + 1 + 1 + 1), 0, none⟩) (u := .slice (some ⟨g9, 0, none⟩) (i + 1) cap9) kt9.out (by first | omega | (simp; done) | (simp; omega)))
          have kw9b := Lib.hid (kb_set (p := ⟨(w.heap.size + 1 + 1 + 1 + 1 + 1), 0, none⟩) (u := .slice (some ⟨g9, 0, none⟩) (i + 1) cap9) kw9.out (by first | omega | (simp; done) | (simp; omega)))
          have ks9b := Lib.hid (kb_set (p := ⟨(w.heap.size + 1 + 1 + 1 + 1 + 1), 0, none⟩) (u := .slice (some ⟨g9, 0, none⟩) (i + 1) cap9) ks9.out (by first | omega | (simp; done) | (simp; omega)))
          have R9b := Lib.hid (bl_set (p := ⟨(w.heap.size + 1 + 1 + 1 + 1 + 1), 0, none⟩) R9.out (by first | omega | (simp; done) | (simp; omega)) (.slice (some ⟨g9, 0, none⟩) (i + 1) cap9))
          go_wp2
          go_roundg (ws.length - (i + 1))
          case measure => rw [HGK.out]; omega
          case rel => exact ⟨i + 1, _, _, _, _, by omega, rfl, rfl, by go_num, K9.out, O9b.out, kt9b.out, kw9b.out, ks9b.out, R9b.out, by simp; omega⟩
        case hB12_1 =>
          go_simp
          clear hHeld
          refine hK.out _ _ ?hS19 (fun hHeld => ?hT19)
          case hS19 => (((try dsimp only); refine ⟨?_, ?_, ?_⟩ <;> (repeat (first | with_reducible assumption | with_reducible refine kc_drew ?_ | with_reducible refine kc_drewN ?_ | with_reducible refine kc_alloc ?_ | with_reducible refine kc_set ?_ (by first | omega | (simp; done) | (simp; omega))))))
          clear hK K
          (try simp only [Act.put, List.setIfInBounds_toArray, List.set_cons_zero, List.set_cons_succ])
          refine wpAnyH_ready (rs := [7]) (by kernel_rfl) (by simp) (AllReadyH.cons rfl (fun K hK => ?hR20) AllReadyH.nil)
          have zz := ((bl_alloc (bl_alloc hbl.drew (.cells #[.int .i64 Z] 2)) (.cells #[.int .i64 (i : Int)] 3))).size
          (try simp at zz)
          refine step_append_lies _ (by rfl) _ _ _ (by rfl) (w.heap.size + 1 + 1 + 1) 2 i0 (.int .i64 0) 1 8 Try.underlying22 hi hz0 hz1 hz2 rfl (by decide) (.slice A1 i c1) i (ints (quL T s ws i)) (by rfl) ((((hO.out.drew.alloc (.cells #[.int .i64 Z] 2)).alloc (.cells #[.int .i64 (i : Int)] 3))).an HLN.out) ⟨wr.heap.size, 0, none⟩ 1 1 [.int .i64 Z] (by rfl) (by rfl) (app_news (blk_old (heap_alloc_new wr.drew _))) (app_one _) (by decide) (by unfold maxLen; omega) (by omega) (by first | omega | rfl | (simp; done) | (simp; omega)) (wr.heap.size + 1 + 1) (by first | omega | rfl | (simp; done) | (simp; omega)) ?_
          intro g7 cap7 w7 hown7 hgrow7 hat7 hlt7
          have ko7 := Lib.hid ((((hO.out.drew.alloc (.cells #[.int .i64 Z] 2)).alloc (.cells #[.int .i64 (i : Int)] 3))).keepL hgrow7 ((blk_old (blk_old (blk_drew ko3.out)))) (.inl rfl))
          have kt7 := Lib.hid ((((hO.out.drew.alloc (.cells #[.int .i64 Z] 2)).alloc (.cells #[.int .i64 (i : Int)] 3))).keepL hgrow7 ((blk_old (blk_old (blk_drew kt3.out)))) (.inr (by omega)))
          have kw7 := Lib.hid ((((hO.out.drew.alloc (.cells #[.int .i64 Z] 2)).alloc (.cells #[.int .i64 (i : Int)] 3))).keepL hgrow7 ((blk_old (blk_old (blk_drew kw3.out)))) (.inr (by omega)))
          have ks7 := Lib.hid ((((hO.out.drew.alloc (.cells #[.int .i64 Z] 2)).alloc (.cells #[.int .i64 (i : Int)] 3))).keepL hgrow7 ((blk_old (blk_old (blk_drew ks3.out)))) (.inr (by omega)))
          have O7 := Lib.hid ((((hO.out.drew.alloc (.cells #[.int .i64 Z] 2)).alloc (.cells #[.int .i64 (i : Int)] 3))).leftN HLN.out hown7 hgrow7 hat7 (by first | omega | rfl | (simp; done) | (simp; omega)) HLS.out)
          have R7 := Lib.hid ((((hO.out.drew.alloc (.cells #[.int .i64 Z] 2)).alloc (.cells #[.int .i64 (i : Int)] 3))).belowL ((bl_alloc (bl_alloc hbl.drew (.cells #[.int .i64 Z] 2)) (.cells #[.int .i64 (i : Int)] 3))) (by omega) hgrow7)
          have z7 := hgrow7.size
          (try simp at z7)
          have NY := Lib.hid (newkeepT hO.out hgrow7 (o := (.cells #[.int .i64 (i : Int)] 3)) (j := wr.heap.size + 1) (new2S wr.drew _ _) (by omega))
          obtain ⟨xt_7, _⟩ := row_one kt7.out
          obtain ⟨xs_7, _⟩ := row_one ks7.out
          obtain ⟨xo_7, xol_7⟩ := row_one ko7.out
          have xfo_7 := frozen_of_row w7 (w.heap.size + 1 + 1 + 1 + 1 + 1) 0 _ _ ko7.out
          clear hown7 hgrow7 hat7 hlt7
          clear hHeld
          refine hK.out _ _ ?hS21 (fun hHeld => ?hT21)
          case hS21 => (((try dsimp only); refine ⟨?_, ?_, ?_⟩ <;> (repeat (first | with_reducible assumption | with_reducible refine kc_drew ?_ | with_reducible refine kc_drewN ?_ | with_reducible refine kc_alloc ?_ | with_reducible refine kc_set ?_ (by first | omega | (simp; done) | (simp; omega))))))
          clear hK K
          (try simp only [Act.put, List.setIfInBounds_toArray, List.set_cons_zero, List.set_cons_succ])
          refine wpAnyH_ready (rs := [11]) (by kernel_rfl) (by simp) (AllReadyH.cons rfl (fun K hK => ?hR22) AllReadyH.nil)
          have zz := (R7.out).size
          (try simp at zz)
          refine step_append_lies _ (by rfl) _ _ _ (by rfl) (w.heap.size + 1 + 1 + 1) 3 j0 (.int .i64 0) 1 8 Try.underlying35 hj hy0 hy1 hy2 rfl (by decide) (.slice A2 i c2) i (ints (idL i)) (by rfl) ((O7.out).bn HRN.out) ⟨wr.heap.size + 1, 0, none⟩ 1 1 [.int .i64 (i : Int)] (by rfl) (by rfl) (app_news NY.out) (app_one _) (by decide) (by unfold maxLen; omega) (by omega) (by first | omega | rfl | (simp; done) | (simp; omega)) (w7.heap.size) (by first | omega | rfl | (simp; done) | (simp; omega)) ?_
          intro g9 cap9 w9 hown9 hgrow9 hat9 hlt9
          have ko9 := Lib.hid ((O7.out).keepR hgrow9 (ko7.out) (.inl rfl))
          have kt9 := Lib.hid ((O7.out).keepR hgrow9 (kt7.out) (.inr (by omega)))
          have kw9 := Lib.hid ((O7.out).keepR hgrow9 (kw7.out) (.inr (by omega)))
          have ks9 := Lib.hid ((O7.out).keepR hgrow9 (ks7.out) (.inr (by omega)))
          have O9 := Lib.hid ((O7.out).rightN HRN.out hown9 hgrow9 hat9 (by first | omega | rfl | (simp; done) | (simp; omega)) HRS.out)
          have R9 := Lib.hid ((O7.out).belowR (R7.out) (by omega) hgrow9)
          have z9 := hgrow9.size
          (try simp at z9)

          obtain ⟨xt_9, _⟩ := row_one kt9.out
          obtain ⟨xs_9, _⟩ := row_one ks9.out
          obtain ⟨xo_9, xol_9⟩ := row_one ko9.out
          have xfo_9 := frozen_of_row w9 (w.heap.size + 1 + 1 + 1 + 1 + 1) 0 _ _ ko9.out
          clear hown9 hgrow9 hat9 hlt9
          clear hHeld
          refine hK.out _ _ ?hS23 (fun hHeld => ?hT23)
          case hS23 => (((try dsimp only); refine ⟨?_, ?_, ?_⟩ <;> (repeat (first | with_reducible assumption | with_reducible refine kc_drew ?_ | with_reducible refine kc_drewN ?_ | with_reducible refine kc_alloc ?_ | with_reducible refine kc_set ?_ (by first | omega | (simp; done) | (simp; omega))))))
          clear hK K
          (try simp only [Act.put, List.setIfInBounds_toArray, List.set_cons_zero, List.set_cons_succ])
          refine wpAnyH_done (by kernel_rfl) ?_ _
          show wpList _ _ _ _ _ _
          clear hHeld
          have K9 := Lib.hid (heap_setCell_same _ _ 0 _ _ (.slice (some ⟨g9, 0, none⟩) (i + 1) cap9) ko9.out)
          have O9b := Lib.hid (O9.out.set 0 (.slice (some ⟨g9, 0, none⟩) (i + 1) cap9))
          have kt9b := Lib.hid (kb_set (p := ⟨(w.heap.size + 1 + 1 + 1 + 1 + 1), 0, none⟩) (u := .slice (some ⟨g9, 0, none⟩) (i + 1) cap9) kt9.out (by first | omega | (simp; done) | (simp; omega)))
          have kw9b := Lib.hid (kb_set (p := ⟨(w.heap.size + 1 + 1 + 1 + 1 + 1), 0, none⟩) (u := .slice (some ⟨g9, 0, none⟩) (i + 1) cap9) kw9.out (by first | omega | (simp; done) | (simp; omega)))
          have ks9b := Lib.hid (kb_set (p := ⟨(w.heap.size + 1 + 1 + 1 + 1 + 1), 0, none⟩) (u := .slice (some ⟨g9, 0, none⟩) (i + 1) cap9) ks9.out (by first | omega | (simp; done) | (simp; omega)))
          have R9b := Lib.hid (bl_set (p := ⟨(w.heap.size + 1 + 1 + 1 + 1 + 1), 0, none⟩) R9.out (by first | omega | (simp; done) | (simp; omega)) (.slice (some ⟨g9, 0, none⟩) (i + 1) cap9))
          go_wp2
          go_roundg (ws.length - (i + 1))
          case measure => rw [HGK.out]; omega
          case rel => exact ⟨i + 1, _, _, _, _, by omega, rfl, rfl, by go_num, K9.out, O9b.out, kt9b.out, kw9b.out, ks9b.out, R9b.out, by simp; omega⟩
      case hB10_1 =>
        go_simp
        clear hHeld
        refine hK.out _ _ ?hS25 (fun hHeld => ?hT25)
        case hS25 => (((try dsimp only); refine ⟨?_, ?_, ?_⟩ <;> (repeat (first | with_reducible assumption | with_reducible refine kc_drew ?_ | with_reducible refine kc_drewN ?_ | with_reducible refine kc_alloc ?_ | with_reducible refine kc_set ?_ (by first | omega | (simp; done) | (simp; omega))))))
        clear hK K
        (try simp only [Act.put, List.setIfInBounds_toArray, List.set_cons_zero, List.set_cons_succ])
        refine wpAnyH_ready (rs := [6]) (by kernel_rfl) (by simp) (AllReadyH.cons rfl (fun K hK => ?hR26) AllReadyH.nil)
        go_simp
        clear hHeld
        refine hK.out _ _ ?hS27 (fun hHeld => ?hT27)
        case hS27 => (((try dsimp only); refine ⟨?_, ?_, ?_⟩ <;> (repeat (first | with_reducible assumption | with_reducible refine kc_drew ?_ | with_reducible refine kc_drewN ?_ | with_reducible refine kc_alloc ?_ | with_reducible refine kc_set ?_ (by first | omega | (simp; done) | (simp; omega))))))
        clear hK K
        (try simp only [Act.put, List.setIfInBounds_toArray, List.set_cons_zero, List.set_cons_succ])
        refine wpAnyH_ready (rs := [7]) (by kernel_rfl) (by simp) (AllReadyH.cons rfl (fun K hK => ?hR28) AllReadyH.nil)
        have zz := ((bl_alloc (bl_alloc hbl.drew (.cells #[.int .i64 (i : Int)] 3)) (.cells #[.int .i64 Z] 2))).size
        (try simp at zz)
        refine step_append_lies _ (by rfl) _ _ _ (by rfl) (w.heap.size + 1 + 1 + 1) 2 i0 (.int .i64 0) 1 8 Try.underlying22 hi hz0 hz1 hz2 rfl (by decide) (.slice A1 i c1) i (ints (quL T s ws i)) (by rfl) ((((hO.out.drew.alloc (.cells #[.int .i64 (i : Int)] 3)).alloc (.cells #[.int .i64 Z] 2))).an HLN.out) ⟨wr.heap.size + 1, 0, none⟩ 1 1 [.int .i64 Z] (by rfl) (by rfl) (app_news (new2S wr.drew _ _)) (app_one _) (by decide) (by unfold maxLen; omega) (by omega) (by first | omega | rfl | (simp; done) | (simp; omega)) (wr.heap.size + 1 + 1) (by first | omega | rfl | (simp; done) | (simp; omega)) ?_
        intro g7 cap7 w7 hown7 hgrow7 hat7 hlt7
        have ko7 := Lib.hid ((((hO.out.drew.alloc (.cells #[.int .i64 (i : Int)] 3)).alloc (.cells #[.int .i64 Z] 2))).keepL hgrow7 ((blk_old (blk_old (blk_drew ko3.out)))) (.inl rfl))
        have kt7 := Lib.hid ((((hO.out.drew.alloc (.cells #[.int .i64 (i : Int)] 3)).alloc (.cells #[.int .i64 Z] 2))).keepL hgrow7 ((blk_old (blk_old (blk_drew kt3.out)))) (.inr (by omega)))
        have kw7 := Lib.hid ((((hO.out.drew.alloc (.cells #[.int .i64 (i : Int)] 3)).alloc (.cells #[.int .i64 Z] 2))).keepL hgrow7 ((blk_old (blk_old (blk_drew kw3.out)))) (.inr (by omega)))
        have ks7 := Lib.hid ((((hO.out.drew.alloc (.cells #[.int .i64 (i : Int)] 3)).alloc (.cells #[.int .i64 Z] 2))).keepL hgrow7 ((blk_old (blk_old (blk_drew ks3.out)))) (.inr (by omega)))
        have O7 := Lib.hid ((((hO.out.drew.alloc (.cells #[.int .i64 (i : Int)] 3)).alloc (.cells #[.int .i64 Z] 2))).leftN HLN.out hown7 hgrow7 hat7 (by first | omega | rfl | (simp; done) | (simp; omega)) HLS.out)
        have R7 := Lib.hid ((((hO.out.drew.alloc (.cells #[.int .i64 (i : Int)] 3)).alloc (.cells #[.int .i64 Z] 2))).belowL ((bl_alloc (bl_alloc hbl.drew (.cells #[.int .i64 (i : Int)] 3)) (.cells #[.int .i64 Z] 2))) (by omega) hgrow7)
        have z7 := hgrow7.size
        (try simp at z7)
        have NY := Lib.hid (newkeepT hO.out hgrow7 (o := (.cells #[.int .i64 (i : Int)] 3)) (j := wr.heap.size) (blk_old (heap_alloc_new wr.drew (.cells #[.int .i64 (i : Int)] 3))) (by omega))
        obtain ⟨xt_7, _⟩ := row_one kt7.out
        obtain ⟨xs_7, _⟩ := row_one ks7.out
        obtain ⟨xo_7, xol_7⟩ := row_one ko7.out
        have xfo_7 := frozen_of_row w7 (w.heap.size + 1 + 1 + 1 + 1 + 1) 0 _ _ ko7.out
        clear hown7 hgrow7 hat7 hlt7
        clear hHeld
        refine hK.out _ _ ?hS29 (fun hHeld => ?hT29)
        case hS29 => (((try dsimp only); refine ⟨?_, ?_, ?_⟩ <;> (repeat (first | with_reducible assumption | with_reducible refine kc_drew ?_ | with_reducible refine kc_drewN ?_ | with_reducible refine kc_alloc ?_ | with_reducible refine kc_set ?_ (by first | omega | (simp; done) | (simp; omega))))))
        clear hK K
        (try simp only [Act.put, List.setIfInBounds_toArray, List.set_cons_zero, List.set_cons_succ])
        refine wpAnyH_ready (rs := [11]) (by kernel_rfl) (by simp) (AllReadyH.cons rfl (fun K hK => ?hR30) AllReadyH.nil)
        have zz := (R7.out).size
        (try simp at zz)
        refine step_append_lies _ (by rfl) _ _ _ (by rfl) (w.heap.size + 1 + 1 + 1) 3 j0 (.int .i64 0) 1 8 Try.underlying35 hj hy0 hy1 hy2 rfl (by decide) (.slice A2 i c2) i (ints (idL i)) (by rfl) ((O7.out).bn HRN.out) ⟨wr.heap.size, 0, none⟩ 1 1 [.int .i64 (i : Int)] (by rfl) (by rfl) (app_news NY.out) (app_one _) (by decide) (by unfold maxLen; omega) (by omega) (by first | omega | rfl | (simp; done) | (simp; omega)) (w7.heap.size) (by first | omega | rfl | (simp; done) | (simp; omega)) ?_
        intro g9 cap9 w9 hown9 hgrow9 hat9 hlt9
        have ko9 := Lib.hid ((O7.out).keepR hgrow9 (ko7.out) (.inl rfl))
        have kt9 := Lib.hid ((O7.out).keepR hgrow9 (kt7.out) (.inr (by omega)))
        have kw9 := Lib.hid ((O7.out).keepR hgrow9 (kw7.out) (.inr (by omega)))
        have ks9 := Lib.hid ((O7.out).keepR hgrow9 (ks7.out) (.inr (by omega)))
        have O9 := Lib.hid ((O7.out).rightN HRN.out hown9 hgrow9 hat9 (by first | omega | rfl | (simp; done) | (simp; omega)) HRS.out)
        have R9 := Lib.hid ((O7.out).belowR (R7.out) (by omega) hgrow9)
        have z9 := hgrow9.size
        (try simp at z9)

        obtain ⟨xt_9, _⟩ := row_one kt9.out
        obtain ⟨xs_9, _⟩ := row_one ks9.out
        obtain ⟨xo_9, xol_9⟩ := row_one ko9.out
        have xfo_9 := frozen_of_row w9 (w.heap.size + 1 + 1 + 1 + 1 + 1) 0 _ _ ko9.out
        clear hown9 hgrow9 hat9 hlt9
        clear hHeld
        refine hK.out _ _ ?hS31 (fun hHeld => ?hT31)
        case hS31 => (((try dsimp only); refine ⟨?_, ?_, ?_⟩ <;> (repeat (first | with_reducible assumption | with_reducible refine kc_drew ?_ | with_reducible refine kc_drewN ?_ | with_reducible refine kc_alloc ?_ | with_reducible refine kc_set ?_ (by first | omega | (simp; done) | (simp; omega))))))
        clear hK K
        (try simp only [Act.put, List.setIfInBounds_toArray, List.set_cons_zero, List.set_cons_succ])
        refine wpAnyH_done (by kernel_rfl) ?_ _
        show wpList _ _ _ _ _ _
        clear hHeld
        have K9 := Lib.hid (heap_setCell_same _ _ 0 _ _ (.slice (some ⟨g9, 0, none⟩) (i + 1) cap9) ko9.out)
        have O9b := Lib.hid (O9.out.set 0 (.slice (some ⟨g9, 0, none⟩) (i + 1) cap9))
        have kt9b := Lib.hid (kb_set (p := ⟨(w.heap.size + 1 + 1 + 1 + 1 + 1), 0, none⟩) (u := .slice (some ⟨g9, 0, none⟩) (i + 1) cap9) kt9.out (by first | omega | (simp; done) | (simp; omega)))
        have kw9b := Lib.hid (kb_set (p := ⟨(w.heap.size + 1 + 1 + 1 + 1 + 1), 0, none⟩) (u := .slice (some ⟨g9, 0, none⟩) (i + 1) cap9) kw9.out (by first | omega | (simp; done) | (simp; omega)))
        have ks9b := Lib.hid (kb_set (p := ⟨(w.heap.size + 1 + 1 + 1 + 1 + 1), 0, none⟩) (u := .slice (some ⟨g9, 0, none⟩) (i + 1) cap9) ks9.out (by first | omega | (simp; done) | (simp; omega)))
        have R9b := Lib.hid (bl_set (p := ⟨(w.heap.size + 1 + 1 + 1 + 1 + 1), 0, none⟩) R9.out (by first | omega | (simp; done) | (simp; omega)) (.slice (some ⟨g9, 0, none⟩) (i + 1) cap9))
        go_wp2
        go_roundg (ws.length - (i + 1))
        case measure => rw [HGK.out]; omega
        case rel => exact ⟨i + 1, _, _, _, _, by omega, rfl, rfl, by go_num, K9.out, O9b.out, kt9b.out, kw9b.out, ks9b.out, R9b.out, by simp; omega⟩
    · obtain rfl : i = ws.length := by omega
      have hcap : ws.length ≤ c2 := by
        rcases (hO.bn (idL_len ws.length)).2 with ⟨e0, h0⟩ | ⟨g', cap', cur, e0, hb, hg, hn, hm, hs, ht⟩
        · omega
        · injection e0 with e1 e2 e3
          omega
      obtain ⟨o1, o2, ap⟩ := hO.endsN (quL_len T s ws ws.length) (idL_len ws.length)
      obtain ⟨g1, cur1, T1, rfl, hb1, hg1, kg1, hc1⟩ := o1 (by rw [ints_len, quL_len]; omega)
      obtain ⟨g2, cur2, T2, rfl, hb2, hg2, kg2, hc2⟩ := o2 (by rw [ints_len, idL_len]; omega)
      have h12 : g1 ≠ g2 := ap _ _ rfl rfl
      have hn1 : g1 ≠ (w.heap.size + 1 + 1 + 1 + 1 + 1) := hO.ak _ rfl
      have hn2 : g2 ≠ (w.heap.size + 1 + 1 + 1 + 1 + 1) := hO.bk _ rfl
      obtain ⟨xt, xtl⟩ := row_one kt
      obtain ⟨xw, xwl⟩ := row_one kw
      obtain ⟨xs, xsl⟩ := row_one ks
      obtain ⟨xo, xol⟩ := row_one ko
      have hH : Holds (enN ws.length) wr g2 0 (Array.range ws.length) := fun j hj => by
        have hj' : j < ws.length := by simpa using hj
        refine ⟨?_, frozen_of_row wr g2 _ _ _ kg2⟩
        rw [Nat.zero_add, cell_of_row wr g2 j _ _ (0, 0) kg2, hc2 j (by rw [ints_len, idL_len]; exact hj'), ints_get _ _ (by rw [idL_len]; exact hj'), idL, gt_mapR _ hj', enN, getElem!_pos (Array.range ws.length) j hj]
        simp [Nat.mod_eq_of_lt hj']
      have HSO := Lib.hid (sort_any wr w.heap.size (w.heap.size + 1) (w.heap.size + 1 + 1 + 1 + 1 + 1) (w.heap.size + 1 + 1) g2 c2 cw A ws T s xt xw xo xs (HA.out.below hbl)
        (fun a ha => by
          obtain ⟨b, off, e, hlt', _⟩ := HA.out (by rw [ints_len]; omega)
          rw [e] at ha
          cases ha
          show b ≠ g2
          omega) ⟨by omega, by omega, fun e => hn2 e.symm, by omega⟩ hH hg2 h1 h60 hT hs1 hs2 (fun k hk => by have := HB.out k hk; omega))
      have HO1 := Lib.hid o1
      have HC1 := Lib.hid hc1
      have HKG1 := Lib.hid kg1
      have HH := Lib.hid hH
      have zr := hbl.size
      have lb := lft_bd (T := T) hs1 HSM.out
      obtain ⟨m, hm⟩ : ∃ m : Nat, lft T s ws = m := ⟨(lft T s ws).toNat, by omega⟩
      obtain ⟨Q, hQ⟩ : ∃ Q, sq T s ws ws.length = Q := ⟨_, rfl⟩
      rw [hm] at lb
      have hTQ : T - Q = (m : Int) := by rw [← hm, lft, hQ]
      have q3 : IntKind.i64.wrap (T - Q) = (m : Int) := by rw [hTQ]; exact IntWalk.i64_in _ (by omega)
      have HSQ := Lib.hid (fun (W : World) (hW : RC W (some ⟨g1, 0, none⟩) (ints (quL T s ws ws.length))) => (by
        have h := sum_any W (some ⟨g1, 0, none⟩) c1 (quL T s ws ws.length) hW (by rw [quL_len]; omega) (fun i hi => by
          rw [quL_len] at hi
          have := quo_bd (T := T) (s := s) (ws := ws) (k := i) hT hs1 (HB.out i hi)
          rw [quL, gt_mapR _ hi]
          omega)
        rw [quL_len, sum_quL T s ws ws.length ws.length (Nat.le_refl _), hQ] at h
        exact h : Calls Try.prog 14 #[.slice (some ⟨g1, 0, none⟩) ws.length c1] W fun e w' => e = .returned (.int .i64 Q) ∧ W = w'))
      have HM := Lib.hid hm
      have HQB := Lib.hid (fun i (hi : i < ws.length) => quo_bd (T := T) (s := s) (ws := ws) (k := i) hT hs1 (HB.out i hi))
      have mc : (m : Int) ≤ (c2 : Int) := by omega
      have m0 : (0 : Int) ≤ (m : Int) := by omega
      clear hm hQ hTQ hO o1 o2 ap hc1 hc2 kg2 kg1 hH
      go_wp2_with (go_at_call 17; refine HSO.out.mono ?_; rintro e w3 ⟨rfl, d', hsw, hp, hs⟩; have xt3 := (sw_cell hsw xtl (show w.heap.size ≠ g2 by omega)).trans xt; have xo3 := (sw_cell hsw xol hn2.symm).trans xo; have kg3 := (sw_block hsw hg1 h12).trans HKG1.out; have hb3 := sw_below hsw hbl (by omega) zr; have hrow := hsw.holds hg2 HH.out (by rw [hp.1])
        )
      have H3 := Lib.hid (show RC w3 (some ⟨g1, 0, none⟩) (ints (quL T s ws ws.length)) from fun h0 => by
        obtain ⟨b, off, e, hbl', hcell⟩ := HO1.out.rc h0
        cases e
        exact ⟨g1, 0, rfl, Nat.lt_of_lt_of_le hg1 hsw.le, fun k hk => (sw_cell hsw hbl' h12).trans (hcell k hk)⟩)
      have HSX := Lib.hid (fun n => HSQ.out (w3.drewN n) (H3.out.drewN n))
      clear hsw
      go_quiet ((go_at_call 14; first | with_reducible exact quiet_eq (HSX.out _) | with_reducible exact quiet_add_eq (HSX.out _)))
      obtain ⟨P, hP⟩ : ∃ P : Nat → Nat, (fun j => d'[j]!) = P := ⟨_, rfl⟩
      have hP' : ∀ j, d'[j]! = P j := fun j => congrFun hP j
      have HPM := Lib.hid hp
      have HPS := Lib.hid hs
      have HLT := Lib.hid (show ∀ j, j < ws.length → P j < ws.length from fun j hj => by rw [← hP']; exact (perm_range hp).1 j hj)
      have HEND := Lib.hid (fun i (hi : i < ws.length) => (by
        have h := shL_sorted hs1 HSM.out hp hs hi
        rw [hP, HM.out] at h
        exact h : gt (shL T s ws) i = shF T s ws P m i))
      have HROW := Lib.hid (show ∀ j, j < ws.length → w3.cell? ⟨g2, j, none⟩ = some (.int .i64 (P j : Int)) from fun j hj => by
        have h := (hrow j (by rw [hp.1]; simpa using hj)).1
        rw [Nat.zero_add, hP', enN, Nat.mod_eq_of_lt (HLT.out j hj)] at h
        exact h)
      have HSB := Lib.hid (fun k i (hk : k ≤ 60) (hi : i < ws.length) => shF_bd (P := P) HQB.out k i hi)
      have hm60 : m ≤ ws.length := by omega
      have hg13 : g1 < w3.heap.size := (Array.getElem?_eq_some_iff.1 kg3).1
      have HB3 := Lib.hid hb3
      have KG3 := Lib.hid kg3
      clear hp hs hrow hP hP' hb3 kg3
      go_wp2
      go_loopg [47] m (fun gm v47 w5 => ∃ k cur, k ≤ m ∧ gm = m - k ∧ v47 = .int .i64 (k : Int) ∧ w5.heap[g1]? = some (.cells cur T1 (0, 0)) ∧ cur.size = cur1.size ∧ (∀ i, i < ws.length → cur[i]? = some (.int .i64 (shF T s ws P k i))) ∧ (∀ j, j < ws.length → w5.cell? ⟨g2, j, none⟩ = some (.int .i64 (P j : Int))) ∧ Below w.heap.size w w5)
      case atStart => exact ⟨0, cur1, Nat.zero_le _, rfl, rfl, by first | exact kg | exact KG3.out, rfl, fun i hi => by rw [HC1.out i (by rw [ints_len, quL_len]; exact hi), ints_get _ _ (by rw [quL_len]; exact hi), quL, gt_mapR _ hi]; rfl, HROW.out, by repeat (first | exact Below.refl _ _ | assumption | apply bl_alloc | apply bl_drewN | apply Below.drew | (refine bl_set ?_ (by first | exact Nat.le_refl _ | (simp; done) | (simp; omega)) _) | (refine bl_trans ?_ (by assumption)))⟩
      case round =>
        obtain ⟨k, cur, hk, hgk, rfl, kg, hcz, hcu, hco, hbw⟩ := hrel
        have HGK2 := Lib.hid hgk
        clear hgk
        by_cases hlt : k < m
        · obtain ⟨x, hx⟩ : ∃ x, P k = x := ⟨_, rfl⟩
          have hxl : x < ws.length := by rw [← hx]; exact HLT.out k (by omega)
          have c1' := hco k (by omega)
          rw [hx] at c1'
          obtain ⟨V, hV⟩ : ∃ V, shF T s ws P k x = V := ⟨_, rfl⟩
          have vb := HSB.out k x (by omega) hxl
          rw [hV] at vb
          have c2' : wr.cell? ⟨g1, x, none⟩ = some (.int .i64 V) := by rw [cell_of_row wr g1 x _ _ (0, 0) kg, hcu x hxl, hV]
          have fz : wr.frozen? ⟨g1, x, none⟩ = false := frozen_of_row wr g1 x _ _ kg
          have qv : IntKind.i64.wrap (V + 1) = V + 1 := IntWalk.i64_in _ (by omega)
          have hxi : (x : Int) < (ws.length : Int) := by omega
          have x0 : (0 : Int) ≤ (x : Int) := by omega
          have HCU := Lib.hid hcu
          have HCO := Lib.hid hco
          have KG := Lib.hid (heap_setCell_same _ _ x _ _ (.int .i64 (V + 1)) kg)
          have hgl := (Array.getElem?_eq_some_iff.1 kg).1
          have hcl : x < cur.size := by
            have := hcu x hxl
            exact (Array.getElem?_eq_some_iff.1 this).1
          clear hcu hco
          go_wp2
          go_roundg (m - (k + 1))
          case measure => rw [HGK2.out]; omega
          case rel =>
            refine ⟨k + 1, _, by omega, rfl, by go_num, KG.out, by simpa using hcz, fun i hi => ?_, fun j hj => ?_, by repeat (first | exact Below.refl _ _ | assumption | apply bl_alloc | apply bl_drewN | apply Below.drew | (refine bl_set ?_ (by first | exact Nat.le_refl _ | (simp; done) | (simp; omega)) _) | (refine bl_trans ?_ (by assumption)))⟩
            · rw [shF, hx, Array.getElem?_setIfInBounds]
              by_cases h : x = i
              · subst h; rw [if_pos rfl, if_pos hcl, if_pos rfl, hV]
              · rw [if_neg h, if_neg (fun e => h e.symm)]; exact HCU.out i hi
            · exact kc_set (HCO.out j hj) (by first | exact h12.symm | (simp; exact h12.symm))
        · obtain rfl : k = m := by omega
          go_wp2
          go_ret
          exact ⟨some ⟨g1, 0, none⟩, c1, by rw [shL_len]; rfl, fun h0 => ⟨g1, cur, T1, rfl, by omega, by exact (Array.getElem?_eq_some_iff.1 kg).1, by first | exact kg | exact KG3.out, fun i hi => by
            rw [ints_len, shL_len] at hi
            rw [hcu i hi, ints_get _ _ (by rw [shL_len]; exact hi), HEND.out i hi]⟩, by repeat (first | exact Below.refl _ _ | assumption | apply bl_alloc | apply bl_drewN | apply Below.drew | (refine bl_set ?_ (by first | exact Nat.le_refl _ | (simp; done) | (simp; omega)) _) | (refine bl_trans ?_ (by assumption)))⟩

end Go.Proofs.Ytddmgjcepkimbaa
