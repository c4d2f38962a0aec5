/-
  Contracts on sharing out: the reference's. They hold for every total and every list of at most 1048576 weights.
-/
import Derived.Test.YtddmgjcepkimbaaShPlain
import Derived.Test.YtddmgjcepkimbaaPair
import Derived.Deep.QuietTactic
import Derived.Deep.AppendLies
namespace Go.Proofs.Ytddmgjcepkimbaa
set_option linter.unusedVariables false
set_option linter.unusedSimpArgs false
open Go.RowKit

theorem own2_startS (W : World) {B T g K : Nat} (hg : W.heap.size = g) (hB : B ≤ g) (hK : K < g) :
    Own2 ((W.alloc (.cells #[] T)).alloc (.cells #[] T)) B K T (.slice (some ⟨g, 0, none⟩) 0 0) [] (.slice (some ⟨g + 1, 0, none⟩) 0 0) [] := by
  subst hg
  have h1 : (W.alloc (.cells #[] T)).ownsRow B T 1 (.slice (some ⟨W.heap.size, 0, none⟩) 0 0) 0 (ints []) := own_litB T B hB
  have h2 := own_litB (W := W.alloc (.cells #[] T)) T B (by simp; omega)
  refine ⟨h1.alloc _, by simpa using h2, fun g hg hu => ?_, fun g hg => ?_, fun g hg => ?_, by simp; omega⟩
  all_goals simp [Value.ownBlock] at *
  all_goals omega
theorem sq_bd {T s : Int} {ws : List Int} (h : ∀ i, i < ws.length → 0 ≤ quo T s ws i ∧ quo T s ws i ≤ 1000000000) : ∀ k, k ≤ ws.length → 0 ≤ sq T s ws k ∧ sq T s ws k ≤ 1000000000 * (k : Int)
  | 0, _ => by simp [sq]
  | k + 1, hk => by
    have h1 := sq_bd h k (by omega)
    have h2 := h k (by omega)
    rw [sq]
    omega
theorem shF_bdS {T s : Int} {ws : List Int} {P : Nat → Nat} (h : ∀ i, i < ws.length → 0 ≤ quo T s ws i ∧ quo T s ws i ≤ 1000000000) : ∀ k i, i < ws.length → 0 ≤ shF T s ws P k i ∧ shF T s ws P k i ≤ 1000000000 + (k : Int)
  | 0, i, hi => by have := h i hi; rw [shF]; omega
  | k + 1, i, hi => by
    have := shF_bdS (P := P) h k i hi
    rw [shF]
    split <;> omega
theorem bst_lt (r : Nat → Int) {m : Nat} (h : 0 < m) : bst r m < m := (bst_spec r m h).1
theorem bst_yes {r : Nat → Int} {m : Nat} (h : r (bst r m) < r m) : bst r (m + 1) = m := by rw [bst, if_pos h]
theorem bst_no {r : Nat → Int} {m : Nat} (h : ¬ r (bst r m) < r m) : bst r (m + 1) = bst r m := by rw [bst, if_neg h]
theorem bst_one (r : Nat → Int) : bst r 1 = 0 := by simp [bst]
theorem seR_next (T s : Int) (ws : List Int) (k i : Nat) : seR T s ws (k + 1) i = if i = seP T s ws k then -1 else seR T s ws k i := rfl
set_option maxRecDepth 100000 in
set_option maxHeartbeats 1600000 in
theorem l02Share_any (w : World) (A : Option Addr) (cw : Nat) (ws : List Int) (T s : Int) (hA : RC w A (ints ws)) (h1 : 1 ≤ ws.length) (h60 : ws.length ≤ 60) (hT : 0 ≤ T ∧ T ≤ 1000000000) (hs1 : 1 ≤ s) (hs2 : s ≤ 1000000000) (hb : ∀ k, k < ws.length → 0 ≤ gt ws k ∧ gt ws k ≤ s) (hsum : sumTo ws ws.length = s) :
    Calls Try.prog 11 #[.int .i64 T, .slice A ws.length cw, .int .i64 s] w (NewInts (shL T s ws) w) := by
  have HA := Lib.hid hA
  have HB := Lib.hid hb
  have HSM := Lib.hid hsum
  obtain ⟨i0, hi, hz0, hz1, hz2⟩ := info_parts infoInt
  obtain ⟨b, off, rfl, hbw, hcell⟩ := HA.out (by rw [ints_len]; omega)
  have HC := Lib.hid hcell
  have HQB := Lib.hid (fun i (hi : i < ws.length) => quo_bd (T := T) (s := s) (ws := ws) (k := i) hT hs1 (hb i hi))
  clear hA hb hsum hcell
  go_enter Try.func11, Try.ntmps11
  go_wp2
  go_loopg [7, 8, 9, 10] ws.length (fun gm v7 v8 v9 v10 wr => ∃ i A1 c1 A2 c2, i ≤ ws.length ∧ gm = ws.length - i ∧ v7 = .slice A1 i c1 ∧ v8 = .slice A2 i c2 ∧ v9 = .int .i64 (T - sq T s ws i) ∧ v10 = .int .i64 (i : Int) ∧ Own2 wr w.heap.size b 2 (.slice A1 i c1) (quL T s ws i) (.slice A2 i c2) (rsL T s ws i) ∧ Below w.heap.size w wr)
  case atStart => exact ⟨0, some ⟨w.heap.size, 0, none⟩, 0, some ⟨w.heap.size + 1, 0, none⟩, 0, Nat.zero_le _, rfl, rfl, rfl, by simp [sq], rfl, own2_startS _ rfl (Nat.le_refl _) hbw, by repeat (first | exact Below.refl _ _ | assumption | apply bl_alloc | apply bl_drewN | apply Below.drew | (refine bl_set ?_ (by first | exact Nat.le_refl _ | (simp; done) | (simp; omega)) _) | (refine bl_trans ?_ (by assumption)))⟩
  case round =>
    obtain ⟨i, A1, c1, A2, c2, hi', hgk, rfl, rfl, rfl, rfl, hO, hbl⟩ := hrel
    have HGK := Lib.hid hgk
    clear hgk
    have zr := hbl.size
    by_cases hlt : i < ws.length
    · have gx := HC.out i (by rw [ints_len]; exact hlt)
      rw [ints_get ws i hlt] at gx
      have bx := HB.out i hlt
      have qb := HQB.out i hlt
      have sb := sq_bd HQB.out i (by omega)
      obtain ⟨X, hX⟩ : ∃ X, gt ws i = X := ⟨_, rfl⟩
      obtain ⟨Z, hZ⟩ : ∃ Z, quo T s ws i = Z := ⟨_, rfl⟩
      obtain ⟨Y, hY⟩ : ∃ Y, rst T s ws i = Y := ⟨_, rfl⟩
      have hQ : T * X / s = Z := by rw [← hZ, quo, hX]
      have hR : T * X % s = Y := by rw [← hY, rst, hX]
      have yb : 0 ≤ Y ∧ Y < s := by rw [← hR]; exact ⟨Int.emod_nonneg _ (by omega), Int.emod_lt_of_pos _ (by omega)⟩
      rw [hX] at gx bx
      rw [hZ] at qb
      have gx3 := (hbl.cell (p := ⟨b, off + i, none⟩) hbw).trans gx
      have p1 : 0 ≤ T * X ∧ T * X ≤ 1000000000 * 1000000000 := ⟨Int.mul_nonneg hT.1 bx.1, Int.mul_le_mul hT.2 (by omega) bx.1 (by omega)⟩
      have q1 := IntWalk.i64_in (T * X) (by omega)
      have q2 : IntKind.i64.wrap ((T * X).tdiv s) = Z := by rw [Int.tdiv_eq_ediv_of_nonneg p1.1, hQ]; exact IntWalk.i64_in Z (by omega)
      have q4 : IntKind.i64.wrap ((T * X).tmod s) = Y := by rw [Int.tmod_eq_emod_of_nonneg p1.1, hR]; exact IntWalk.i64_in Y (by omega)
      have q5 : IntKind.i64.wrap (T - sq T s ws i - Z) = T - sq T s ws (i + 1) := by
        rw [IntWalk.i64_in _ (by omega), sq, hZ]
        omega
      have hs0 : (s == 0) = false := by simp; omega
      have hs3 : ¬ s = 0 := by omega
      have HLN := Lib.hid (quL_len T s ws i)
      have HRN := Lib.hid (rsL_len T s ws i)
      have HLS := Lib.hid (show quL T s ws (i + 1) = quL T s ws i ++ [Z] by rw [quL_next, hZ])
      have HRS := Lib.hid (show rsL T s ws (i + 1) = rsL T s ws i ++ [Y] by rw [rsL_next, hY])
      have hO := Lib.hid hO
      clear hX hZ hY hQ q4
      go_wp2_with (first | (at_builtin; refine wpList_append_lies _ rfl _ _ 22 rfl w.heap.size 2 i0 (.int .i64 0) 1 8 Try.underlying22 hi hz0 hz1 hz2 rfl (by decide) _ _ _ rfl ((hO.out.an HLN.out).alloc _) ⟨wr.heap.size, 0, none⟩ 1 1 [.int .i64 Z] rfl rfl (by first | exact app_news (heap_alloc_new _ _) | exact app_news (heap_alloc_new wr _)) (app_one _) (by decide) (by have := hlt; unfold maxLen; omega) (by have := hlt; omega) (by first | omega | (simp; done) | (simp; omega)) (wr.heap.size + 1) (by simp) ?_; intro g7 cap7 w7 hown7 hgrow7 hat7 hlt7; have O7 := Lib.hid ((hO.out.alloc (.cells #[.int .i64 Z] 2)).leftN HLN.out hown7 hgrow7 hat7 (by simp) HLS.out); have R7 := Lib.hid ((hO.out.alloc (.cells #[.int .i64 Z] 2)).belowL (bl_alloc hbl _) (by omega) hgrow7); have z7 := R7.out.size; clear hown7 hgrow7 hat7 hlt7) | (at_builtin; refine wpList_append_lies _ rfl _ _ 22 rfl w.heap.size 2 i0 (.int .i64 0) 1 8 Try.underlying22 hi hz0 hz1 hz2 rfl (by decide) _ _ _ rfl ((O7.out.bn HRN.out).alloc _) ⟨w7.heap.size, 0, none⟩ 1 1 [.int .i64 Y] rfl rfl (by first | exact app_news (heap_alloc_new _ _) | exact app_news (heap_alloc_new w7 _)) (app_one _) (by decide) (by have := hlt; unfold maxLen; omega) (by have := hlt; omega) (by first | omega | (simp; done) | (simp; omega)) (w7.heap.size + 1) (by simp) ?_; intro g9 cap9 w9 hown9 hgrow9 hat9 hlt9; have O9 := Lib.hid ((O7.out.alloc (.cells #[.int .i64 Y] 2)).rightN HRN.out hown9 hgrow9 hat9 (by simp) HRS.out); have R9 := Lib.hid ((O7.out.alloc (.cells #[.int .i64 Y] 2)).belowR (bl_alloc R7.out _) (by omega) hgrow9); have z9 := R9.out.size; clear hown9 hgrow9 hat9 hlt9))
      go_roundg (ws.length - (i + 1))
      case measure => rw [HGK.out]; omega
      case rel => exact ⟨i + 1, _, _, _, _, by omega, rfl, rfl, rfl, rfl, by go_num, O9.out, R9.out⟩
    · obtain rfl : i = ws.length := by omega
      obtain ⟨o1, o2, ap⟩ := hO.endsN (quL_len T s ws ws.length) (rsL_len T s ws ws.length)
      obtain ⟨g1, cur1, T1, rfl, hb1, hg1, kg1, hc1⟩ := o1 (by rw [ints_len, quL_len]; omega)
      obtain ⟨g2, cur2, T2, rfl, hb2, hg2, kg2, hc2⟩ := o2 (by rw [ints_len, rsL_len]; omega)
      have h12 : g1 ≠ g2 := ap _ _ rfl rfl
      have lb := lft_bd (T := T) hs1 HSM.out
      obtain ⟨m, hm⟩ : ∃ m : Nat, lft T s ws = m := ⟨(lft T s ws).toNat, by omega⟩
      have hl0 : T - sq T s ws ws.length = (m : Int) := by rw [← hm, lft]
      rw [hm] at lb
      have hm60 : m ≤ ws.length := by omega
      have HM := Lib.hid hm
      have HC1 := Lib.hid hc1
      have HC2 := Lib.hid hc2
      have HSB := Lib.hid (fun k i (hi : i < ws.length) => shF_bdS (P := seP T s ws) HQB.out k i hi)
      rw [hl0]
      clear hO o1 o2 ap hm hc1 hc2 lb hl0
      go_wp2
      go_loopg [9, 12, 13] m (fun gm v9 v12 v13 wr => ∃ k cu cv, k ≤ m ∧ gm = m - k ∧ v9 = .int .i64 ((m : Int) - (k : Int)) ∧ wr.heap[g1]? = some (.cells cu T1 (0, 0)) ∧ wr.heap[g2]? = some (.cells cv T2 (0, 0)) ∧ (∀ i, i < ws.length → cu[i]? = some (.int .i64 (shF T s ws (seP T s ws) k i))) ∧ (∀ i, i < ws.length → cv[i]? = some (.int .i64 (seR T s ws k i))) ∧ Below w.heap.size w wr)
      case atStart => exact ⟨0, cur1, cur2, Nat.zero_le _, rfl, by simp, kg1, kg2, fun i hi => by rw [HC1.out i (by rw [ints_len, quL_len]; exact hi), ints_get _ _ (by rw [quL_len]; exact hi), quL, gt_mapR _ hi]; rfl, fun i hi => by rw [HC2.out i (by rw [ints_len, rsL_len]; exact hi), ints_get _ _ (by rw [rsL_len]; exact hi), rsL, gt_mapR _ hi]; rfl, hbl⟩
      case round =>
        clear kg1 kg2 hbl
        obtain ⟨k, cu, cv, hk, hgk, rfl, kg1, kg2, hcu, hcv, hbl⟩ := hrel
        have HGK2 := Lib.hid hgk
        clear hgk
        by_cases hlt2 : k < m
        · have hpos : (0 : Int) < (m : Int) - (k : Int) := by omega
          obtain ⟨r, hr⟩ : ∃ r, seR T s ws k = r := ⟨_, rfl⟩
          rw [hr] at hcv
          have HR := Lib.hid hr
          have hgl1 := (Array.getElem?_eq_some_iff.1 kg1).1
          have hgl2 := (Array.getElem?_eq_some_iff.1 kg2).1
          have KG1 := Lib.hid kg1
          have KG2 := Lib.hid kg2
          have HCU := Lib.hid hcu
          have HCV := Lib.hid hcv
          have HBL := Lib.hid hbl
          clear hr hcu hcv kg1 kg2 hbl
          go_wp2
          go_loopg [12, 13] (ws.length - 1) (fun gm v12 v13 w5 => ∃ j d, 1 ≤ j ∧ j ≤ ws.length ∧ gm = ws.length - j ∧ v13 = .int .i64 (j : Int) ∧ v12 = .int .i64 ((bst r j : Nat) : Int) ∧ w5 = wr.drewN d)
          case atStart => exact ⟨1, 0, Nat.le_refl _, h1, rfl, rfl, by rw [bst_one]; rfl, rfl⟩
          case round =>
            obtain ⟨j, d, hj1, hj, hgj, rfl, rfl, rfl⟩ := hrel
            have HGJ := Lib.hid hgj
            clear hgj
            have hbj := bst_lt r (m := j) (by omega)
            obtain ⟨x, hx⟩ : ∃ x, bst r j = x := ⟨_, rfl⟩
            rw [hx] at hbj ⊢
            have HX := Lib.hid hx
            clear hx
            by_cases hlt3 : j < ws.length
            · have d1 : wr.cell? ⟨g2, j, none⟩ = some (.int .i64 (r j)) := by rw [cell_of_row wr g2 j _ _ (0, 0) KG2.out, HCV.out j hlt3]
              have d2 : wr.cell? ⟨g2, x, none⟩ = some (.int .i64 (r x)) := by rw [cell_of_row wr g2 x _ _ (0, 0) KG2.out, HCV.out x (by omega)]
              have j2 : (x : Int) < (ws.length : Int) := by omega
              by_cases hc : r x < r j
              · have HY := Lib.hid (show bst r (j + 1) = j from bst_yes (by rw [HX.out]; exact hc))
                go_wp2
                go_quiet (fail)
                go_wp2
                go_roundg (ws.length - (j + 1))
                case measure => rw [HGJ.out]; omega
                case rel => exact ⟨j + 1, _, by omega, by omega, rfl, by go_num, by rw [HY.out], by first | rfl | exact World.drewN_drewN _ _ _⟩
              · have HY := Lib.hid (show bst r (j + 1) = x from (bst_no (by rw [HX.out]; exact hc)).trans HX.out)
                go_wp2
                go_quiet (fail)
                go_wp2
                go_roundg (ws.length - (j + 1))
                case measure => rw [HGJ.out]; omega
                case rel => exact ⟨j + 1, _, by omega, by omega, rfl, by go_num, by rw [HY.out], by first | rfl | exact World.drewN_drewN _ _ _⟩
            · obtain rfl : j = ws.length := by omega
              have HP := Lib.hid (show seP T s ws k = x by rw [seP, HR.out]; exact HX.out)
              obtain ⟨V, hV⟩ : ∃ V, shF T s ws (seP T s ws) k x = V := ⟨_, rfl⟩
              have vb := HSB.out k x hbj
              rw [hV] at vb
              have HV := Lib.hid hV
              have e1 : wr.cell? ⟨g1, x, none⟩ = some (.int .i64 V) := by rw [cell_of_row wr g1 x _ _ (0, 0) KG1.out, HCU.out x hbj, HV.out]
              have e2 : wr.cell? ⟨g2, x, none⟩ = some (.int .i64 (r x)) := by rw [cell_of_row wr g2 x _ _ (0, 0) KG2.out, HCV.out x hbj]
              have f1 : wr.frozen? ⟨g1, x, none⟩ = false := frozen_of_row wr g1 x _ _ KG1.out
              have f2 : wr.frozen? ⟨g2, x, none⟩ = false := frozen_of_row wr g2 x _ _ KG2.out
              have qv : IntKind.i64.wrap (V + 1) = V + 1 := IntWalk.i64_in _ (by omega)
              have q6 : IntKind.i64.wrap ((m : Int) - (k : Int) - 1) = (m : Int) - ((k + 1 : Nat) : Int) := by
                rw [IntWalk.i64_in _ (by omega)]
                omega
              have j2 : (x : Int) < (ws.length : Int) := by omega
              have h21 : g2 ≠ g1 := fun e => h12 e.symm
              have K1 : ((wr.drewN d).setCell ⟨g1, x, none⟩ (.int .i64 (V + 1))).heap[g1]? = some (.cells (cu.setIfInBounds x (.int .i64 (V + 1))) T1 (0, 0)) := heap_setCell_same _ _ x _ _ _ KG1.out
              have K2 : ((wr.drewN d).setCell ⟨g1, x, none⟩ (.int .i64 (V + 1))).heap[g2]? = some (.cells cv T2 (0, 0)) := kb_set (p := ⟨g1, x, none⟩) (show (wr.drewN d).heap[g2]? = _ from KG2.out) h21
              have K1b := Lib.hid (kb_set (p := ⟨g2, x, none⟩) (u := .int .i64 (-1)) K1 h12)
              have K2b := Lib.hid (heap_setCell_same _ _ x _ _ (.int .i64 (-1)) K2)
              have B1 := Lib.hid (bl_set (p := ⟨g2, x, none⟩) (bl_set (p := ⟨g1, x, none⟩) (bl_drewN HBL.out d) hb1 (.int .i64 (V + 1))) hb2 (.int .i64 (-1)))
              have x1 : x < cu.size := by
                have := HCU.out x hbj
                exact (Array.getElem?_eq_some_iff.1 this).1
              have x2 : x < cv.size := by
                have := HCV.out x hbj
                exact (Array.getElem?_eq_some_iff.1 this).1
              clear hV K1 K2
              go_wp2
              go_roundg (m - (k + 1))
              case measure => rw [HGK2.out]; omega
              case rel =>
                refine ⟨k + 1, _, _, by omega, rfl, rfl, K1b.out, K2b.out, fun i hi => ?_, fun i hi => ?_, B1.out⟩
                · rw [shF, HP.out, Array.getElem?_setIfInBounds]
                  by_cases h : x = i
                  · subst h; rw [if_pos rfl, if_pos x1, if_pos rfl, HV.out]
                  · rw [if_neg h, if_neg (fun e => h e.symm)]; exact HCU.out i hi
                · rw [seR_next, HP.out, HR.out, Array.getElem?_setIfInBounds]
                  by_cases h : x = i
                  · subst h; rw [if_pos rfl, if_pos x2, if_pos rfl]
                  · rw [if_neg h, if_neg (fun e => h e.symm)]; exact HCV.out i hi
        · obtain rfl : k = m := by omega
          have hz0' : (k : Int) - (k : Int) = 0 := by omega
          rw [hz0']
          go_wp2
          go_ret
          refine ⟨some ⟨g1, 0, none⟩, c1, by rw [shL_len]; rfl, fun h0 => ⟨g1, cu, T1, rfl, by omega, (Array.getElem?_eq_some_iff.1 kg1).1, kg1, fun i hi => ?_⟩, hbl⟩
          rw [ints_len, shL_len] at hi
          rw [hcu i hi, ints_get _ _ (by rw [shL_len]; exact hi), shL, gt_mapR _ hi, HM.out]
          rfl

end Go.Proofs.Ytddmgjcepkimbaa
