/-
  Contract on reading a curve: the reference. It holds for every text of at most 1048576 bytes.
-/
import Derived.IntWalk
import Derived.Test.YtcjfdfjimcapkaaDoorRdCPlain
import Derived.Test.YtcjfdfjimcapkaaDoorRdAt
import Derived.Test.YtcjfdfjimcapkaaDoorCurve2
import Derived.Test.YtcjfdfjimcapkaaDoorPair
import Derived.Deep.AppendLies
namespace Go.Proofs.YtcjfdfjimcapkaaDoor
set_option linter.unusedVariables false
set_option linter.unusedSimpArgs false
open Go.RowKit

theorem own2_startR (W : World) {B T g : Nat} {c : Array Value} {t : TypeId} (hg : W.heap.size = g) (hB : B ≤ g) :
    Own2 (((W.alloc (.cells #[] T)).alloc (.cells #[] T)).alloc (.cells c t)) B (g + 2) T (.slice (some ⟨g, 0, none⟩) 0 0) [] (.slice (some ⟨g + 1, 0, none⟩) 0 0) [] := by
  subst hg
  have h1 : (W.alloc (.cells #[] T)).ownsRow B T 1 (.slice (some ⟨W.heap.size, 0, none⟩) 0 0) 0 (ints []) := own_litB T B hB
  have h2 := own_litB (W := W.alloc (.cells #[] T)) T B (by simp; omega)
  refine ⟨(h1.alloc _).alloc _, by simpa using h2.alloc _, fun g hg hu => ?_, fun g hg => ?_, fun g hg => ?_, by simp⟩
  all_goals simp [Value.ownBlock] at *
  all_goals omega
/-- a curve and whether it was read -/
def NewCurveB (ls vs : List Int) (b : Bool) (w : World) (e : Ending) (w' : World) : Prop :=
  ∃ A k A' k', e = .returned (.tuple #[.agg #[.slice A ls.length k, .slice A' vs.length k'], .bool b]) ∧ OwnC w.heap.size w'.heap.size w' A (ints ls) ∧ OwnC w.heap.size w'.heap.size w' A' (ints vs) ∧ Apart A A' ∧ Below w.heap.size w w'
set_option maxRecDepth 100000 in
set_option maxHeartbeats 800000 in
theorem specReadC (w : World) (l : List UInt8) (hm : l.length ≤ 1048576) : Calls Tryd.prog 6 #[.string ⟨l.toArray⟩] w (NewCurveB (rdL l) (rdV l) (rcB l) w) := by
  obtain ⟨i0, hi, hz0, hz1, hz2⟩ := info_parts infoInt
  obtain ⟨P, hP⟩ : ∃ P, spl 32 l = P := ⟨_, rfl⟩
  have HPN := Lib.hid hP
  have hpl := spl_len 32 l
  rw [hP] at hpl
  clear hP
  go_enter Tryd.func6, Tryd.ntmps6
  go_wp2_with ((go_at_call 21; refine (split_at _ l 32 32 P (by decide) HPN.out hm).mono ?_; rintro e w2 ⟨g, c0, cur, rfl, hg, kg, hcur, hb2⟩; have hgl := blk_lt kg; have kr2 := keep_blk (hb := hb2) (h := heap_alloc_new w _)))
  have zb2 := hb2.size
  simp at zb2 hg
  go_loopg [6] P.length (fun m i wr => ∃ j, j ≤ P.length ∧ m = P.length - j ∧ i = .int .i64 ((j : Nat) : Int) ∧ (∃ A1 c1 A2 c2, wr.heap[(w2.heap.size + 2)]? = some (.cells #[.slice A1 j c1, .slice A2 j c2] 24 (0, 0)) ∧ Own2 wr w2.heap.size (w2.heap.size + 2) 2 (.slice A1 j c1) (kL P j) (.slice A2 j c2) (kV P j)) ∧ wr.heap[w.heap.size]? = some (.cells #[.slice none 0 0, .slice none 0 0] 24 (0, 0)) ∧ wr.heap[g]? = some (.cells cur 9 (0, 0)) ∧ AllP P j ∧ Below w.heap.size w wr)
  case atStart => exact ⟨0, Nat.zero_le _, rfl, rfl, ⟨some ⟨w2.heap.size, 0, none⟩, 0, some ⟨w2.heap.size + 1, 0, none⟩, 0, by repeat (first | (refine blk_new ?_; (first | rfl | (simp; done) | (simp; omega))) | refine blk_drewN ?_ | refine blk_old ?_), own2_startR _ rfl (Nat.le_refl _)⟩, by ((repeat (first | (refine blk_new ?_; (first | rfl | (simp; done) | (simp; omega))) | refine blk_drewN ?_ | refine blk_old ?_)) <;> assumption), by ((repeat (first | (refine blk_new ?_; (first | rfl | (simp; done) | (simp; omega))) | refine blk_drewN ?_ | refine blk_old ?_)) <;> assumption), AllP.zero P, by repeat (first | exact Below.refl _ _ | assumption | apply bl_alloc | apply bl_drewN | apply Below.drew | (refine bl_set ?_ (by first | exact Nat.le_refl _ | (simp; done) | (simp; omega)) _) | (refine bl_trans ?_ (by assumption)))⟩
  case round =>
    obtain ⟨j, hj, hgj, rfl, ⟨A1, c1, A2, c2, kc3, hO3⟩, kr3, kx3, hok, hb⟩ := hrel
    have HGK := Lib.hid hgj
    have hlc := blk_lt kc3
    have hO3 := Lib.hid hO3
    have kc3 := Lib.hid kc3
    have kr3 := Lib.hid kr3
    have kx3 := Lib.hid kx3
    clear hgj
    by_cases hlt : j < P.length
    · obtain ⟨x, hx⟩ : ∃ x, P[j]? = some x := ⟨_, List.getElem?_eq_getElem hlt⟩
      have f1 := cell_sV kx3.out hcur hx
      have hxm : x ∈ spl 32 l := by rw [HPN.out]; exact List.mem_of_getElem? hx
      have hxl : x.length ≤ l.length := spl_piece hxm
      obtain ⟨Q, hQ⟩ : ∃ Q, spl 58 x = Q := ⟨_, rfl⟩
      have HQN := Lib.hid hQ
      have hql := spl_len 58 x
      rw [hQ] at hql
      clear hQ
      by_cases hq2 : Q.length = 2
      · obtain ⟨p, q, hpq⟩ : ∃ p q, Q = [p, q] := by
          match Q, hq2 with
          | [p, q], _ => exact ⟨p, q, rfl⟩
        have HQ2 := Lib.hid (show spl 58 x = [p, q] by rw [HQN.out, hpq])
        have HT := Lib.hid (pk_two HQ2.out)
        have hp1 : p.length ≤ x.length := spl_piece (d := 58) (by rw [HQ2.out]; simp)
        have hp2 : q.length ≤ x.length := spl_piece (d := 58) (by rw [HQ2.out]; simp)
        clear hpq hq2 hql HQN
        clear Q
        have HL := Lib.hid (kL_len hj)
        have HV := Lib.hid (kV_len hj)
        cases hk : pkB x
        · have H := Lib.hid (rc_bad hxm hk)
          have HD := Lib.hid (rd_no H.out)
          rcases hna : numB p with _ | _
          · rcases hnb : numB q with _ | _
            all_goals
              have HA := Lib.hid hna
              have HB := Lib.hid hnb
              clear hna hnb hk
              go_wp2_with (first | (go_at_call 21; refine (split2_at _ x 58 58 p q (by decide) HQ2.out (by omega)).mono ?_; rintro e w4 ⟨gq, cq, curq, rfl, kq, f2, hcurq, hb4⟩; have hO4 := Lib.hid (hO3.out.below hb4); have kc4 := Lib.hid (keep_blk (hb := hb4) (h := kc3.out)); have kr4 := Lib.hid (keep_blk (hb := hb4) (h := kr3.out)); have kx4 := Lib.hid (keep_blk (hb := hb4) (h := kx3.out)); obtain ⟨r0, r1, rf0, rf1, rl⟩ := cells_two kr4.out (Below.refl _ _)) | (go_at_call 22; with_reducible refine (number_at _ p _ HA.out (by omega)).mono ?_; rintro e w5 ⟨rfl, hb5⟩; have hO5 := Lib.hid (hO4.out.below hb5); have kc5 := Lib.hid (keep_blk (hb := hb5) (h := kc4.out)); have kr5 := Lib.hid (keep_blk (hb := hb5) (h := kr4.out)); have kx5 := Lib.hid (keep_blk (hb := hb5) (h := kx4.out)); have kq5 := keep_blk (hb := hb5) (h := kq); have f3 := (cell_of_row w5 gq 1 _ _ (0, 0) kq5).trans hcurq) | (go_at_call 22; with_reducible refine (number_at _ q _ HB.out (by omega)).mono ?_; rintro e w6 ⟨rfl, hb6⟩; have hO6 := Lib.hid (hO5.out.below hb6); have kc6 := Lib.hid (keep_blk (hb := hb6) (h := kc5.out)); have kr6 := Lib.hid (keep_blk (hb := hb6) (h := kr5.out)); have kx6 := Lib.hid (keep_blk (hb := hb6) (h := kx5.out)); obtain ⟨r0, r1, rf0, rf1, rl⟩ := cells_two kr6.out (Below.refl _ _); obtain ⟨x0, x1, xf0, xf1, xl⟩ := cells_two kc6.out (Below.refl _ _)))
              refine bodyPost_ret (v := .tuple #[.agg #[.slice none 0 0, .slice none 0 0], .bool false]) (by simp [results, Tryd.results6, go_sem, r0, r1]) rfl ?_
              rw [H.out, HD.out.1, HD.out.2]
              exact ⟨none, 0, none, 0, rfl, OwnC.nil _ _ _ _, OwnC.nil _ _ _ _, Apart.none _, by repeat (first | exact Below.refl _ _ | assumption | apply bl_alloc | apply bl_drewN | apply Below.drew | (refine bl_set ?_ (by first | exact Nat.le_refl _ | (simp; done) | (simp; omega)) _) | (refine bl_trans ?_ (by assumption)))⟩
          · rcases hnb : numB q with _ | _
            · have HA := Lib.hid hna
              have HB := Lib.hid hnb
              clear hna hnb hk
              go_wp2_with (first | (go_at_call 21; refine (split2_at _ x 58 58 p q (by decide) HQ2.out (by omega)).mono ?_; rintro e w4 ⟨gq, cq, curq, rfl, kq, f2, hcurq, hb4⟩; have hO4 := Lib.hid (hO3.out.below hb4); have kc4 := Lib.hid (keep_blk (hb := hb4) (h := kc3.out)); have kr4 := Lib.hid (keep_blk (hb := hb4) (h := kr3.out)); have kx4 := Lib.hid (keep_blk (hb := hb4) (h := kx3.out)); obtain ⟨r0, r1, rf0, rf1, rl⟩ := cells_two kr4.out (Below.refl _ _)) | (go_at_call 22; with_reducible refine (number_at _ p _ HA.out (by omega)).mono ?_; rintro e w5 ⟨rfl, hb5⟩; have hO5 := Lib.hid (hO4.out.below hb5); have kc5 := Lib.hid (keep_blk (hb := hb5) (h := kc4.out)); have kr5 := Lib.hid (keep_blk (hb := hb5) (h := kr4.out)); have kx5 := Lib.hid (keep_blk (hb := hb5) (h := kx4.out)); have kq5 := keep_blk (hb := hb5) (h := kq); have f3 := (cell_of_row w5 gq 1 _ _ (0, 0) kq5).trans hcurq) | (go_at_call 22; with_reducible refine (number_at _ q _ HB.out (by omega)).mono ?_; rintro e w6 ⟨rfl, hb6⟩; have hO6 := Lib.hid (hO5.out.below hb6); have kc6 := Lib.hid (keep_blk (hb := hb6) (h := kc5.out)); have kr6 := Lib.hid (keep_blk (hb := hb6) (h := kr5.out)); have kx6 := Lib.hid (keep_blk (hb := hb6) (h := kx5.out)); obtain ⟨r0, r1, rf0, rf1, rl⟩ := cells_two kr6.out (Below.refl _ _); obtain ⟨x0, x1, xf0, xf1, xl⟩ := cells_two kc6.out (Below.refl _ _)))
              refine bodyPost_ret (v := .tuple #[.agg #[.slice none 0 0, .slice none 0 0], .bool false]) (by simp [results, Tryd.results6, go_sem, r0, r1]) rfl ?_
              rw [H.out, HD.out.1, HD.out.2]
              exact ⟨none, 0, none, 0, rfl, OwnC.nil _ _ _ _, OwnC.nil _ _ _ _, Apart.none _, by repeat (first | exact Below.refl _ _ | assumption | apply bl_alloc | apply bl_drewN | apply Below.drew | (refine bl_set ?_ (by first | exact Nat.le_refl _ | (simp; done) | (simp; omega)) _) | (refine bl_trans ?_ (by assumption)))⟩
            · rw [HT.out.1, hna, hnb] at hk
              cases hk
        · have hab := hk
          rw [HT.out.1, Bool.and_eq_true] at hab
          have HA := Lib.hid hab.1
          have HB := Lib.hid hab.2
          have HO := Lib.hid (hok.next hx hk)
          have HS := Lib.hid (show kL P (j + 1) = kL P j ++ [numV p] by rw [kL_next hx, HT.out.2.1])
          have HS2 := Lib.hid (show kV P (j + 1) = kV P j ++ [numV q] by rw [kV_next hx, HT.out.2.2])
          clear hab hk
          go_wp2_with (first | (go_at_call 21; refine (split2_at _ x 58 58 p q (by decide) HQ2.out (by omega)).mono ?_; rintro e w4 ⟨gq, cq, curq, rfl, kq, f2, hcurq, hb4⟩; have hO4 := Lib.hid (hO3.out.below hb4); have kc4 := Lib.hid (keep_blk (hb := hb4) (h := kc3.out)); have kr4 := Lib.hid (keep_blk (hb := hb4) (h := kr3.out)); have kx4 := Lib.hid (keep_blk (hb := hb4) (h := kx3.out)); obtain ⟨r0, r1, rf0, rf1, rl⟩ := cells_two kr4.out (Below.refl _ _)) | (go_at_call 22; with_reducible refine (number_at _ p _ HA.out (by omega)).mono ?_; rintro e w5 ⟨rfl, hb5⟩; have hO5 := Lib.hid (hO4.out.below hb5); have kc5 := Lib.hid (keep_blk (hb := hb5) (h := kc4.out)); have kr5 := Lib.hid (keep_blk (hb := hb5) (h := kr4.out)); have kx5 := Lib.hid (keep_blk (hb := hb5) (h := kx4.out)); have kq5 := keep_blk (hb := hb5) (h := kq); have f3 := (cell_of_row w5 gq 1 _ _ (0, 0) kq5).trans hcurq) | (go_at_call 22; with_reducible refine (number_at _ q _ HB.out (by omega)).mono ?_; rintro e w6 ⟨rfl, hb6⟩; have hO6 := Lib.hid (hO5.out.below hb6); have kc6 := Lib.hid (keep_blk (hb := hb6) (h := kc5.out)); have kr6 := Lib.hid (keep_blk (hb := hb6) (h := kr5.out)); have kx6 := Lib.hid (keep_blk (hb := hb6) (h := kx5.out)); obtain ⟨r0, r1, rf0, rf1, rl⟩ := cells_two kr6.out (Below.refl _ _); obtain ⟨x0, x1, xf0, xf1, xl⟩ := cells_two kc6.out (Below.refl _ _)) | (at_builtin; refine wpList_append_lies _ rfl _ _ 22 rfl w2.heap.size 2 i0 (.int .i64 0) 1 8 Tryd.underlying22 hi hz0 hz1 hz2 rfl (by decide) _ _ _ rfl ((hO6.out.an HL.out).alloc _) ⟨w6.heap.size, 0, none⟩ 1 1 [.int .i64 (numV p)] rfl rfl (by first | exact app_news (heap_alloc_new _ _) | exact app_news (heap_alloc_new w6 _)) (app_one _) (by decide) (by have := hj; unfold maxLen; omega) (by have := hj; omega) (by have := hb4.size; have := hb5.size; have := hb6.size; simp; omega) (w6.heap.size + 1) (by simp) ?_; intro g1 cap1 w7 hown7 hgrow7 hat7 hlt7; have kc7 := (hO6.out.alloc (.cells #[.int .i64 (numV p)] 2)).keepL hgrow7 (blk_old kc6.out) (.inl rfl); obtain ⟨v0, v1, vf0, vf1, vl⟩ := cells_two kc7 (Below.refl _ _); have O7 := Lib.hid ((hO6.out.alloc (.cells #[.int .i64 (numV p)] 2)).leftN HL.out hown7 hgrow7 hat7 (by simp) HS.out); have R7 := Lib.hid ((hO6.out.alloc (.cells #[.int .i64 (numV p)] 2)).belowL (bl_alloc (bl_trans (bl_trans (bl_trans hb hb4) hb5) hb6) _) (by omega) hgrow7); have X7 := Lib.hid ((hO6.out.alloc (.cells #[.int .i64 (numV p)] 2)).keepL hgrow7 (blk_old kx6.out) (.inr (by omega))); have Y7 := Lib.hid ((hO6.out.alloc (.cells #[.int .i64 (numV p)] 2)).keepL hgrow7 (blk_old kr6.out) (.inr (by omega))); have z7 := R7.out.size; clear hown7 hgrow7 hat7 hlt7) | (have K8 := Lib.hid (heap_setCell_same _ _ 0 _ _ (.slice (some ⟨g1, 0, none⟩) (j + 1) cap1) kc7); have O8 := Lib.hid (O7.out.set 0 (.slice (some ⟨g1, 0, none⟩) (j + 1) cap1)); have X8 := Lib.hid (kb_set (u := .slice (some ⟨g1, 0, none⟩) (j + 1) cap1) (p := ⟨(w2.heap.size + 2), 0, none⟩) X7.out (by first | (simp; done) | (simp; omega))); have Y8 := Lib.hid (kb_set (u := .slice (some ⟨g1, 0, none⟩) (j + 1) cap1) (p := ⟨(w2.heap.size + 2), 0, none⟩) Y7.out (by first | (simp; done) | (simp; omega))); have B8 := Lib.hid (bl_set (p := ⟨(w2.heap.size + 2), 0, none⟩) R7.out (by simp; omega) (.slice (some ⟨g1, 0, none⟩) (j + 1) cap1)); have HN8 : ((w7.setCell ⟨(w2.heap.size + 2), 0, none⟩ (.slice (some ⟨g1, 0, none⟩) (j + 1) cap1)).alloc (.cells #[.int .i64 (numV q)] 2)).heap[w7.heap.size]? = some (.cells #[.int .i64 (numV q)] 2 (0, 0)) := (by simpa using heap_alloc_new (w7.setCell ⟨(w2.heap.size + 2), 0, none⟩ (.slice (some ⟨g1, 0, none⟩) (j + 1) cap1)) (.cells #[.int .i64 (numV q)] 2)); at_builtin; refine wpList_append_lies _ rfl _ _ 22 rfl w2.heap.size 2 i0 (.int .i64 0) 1 8 Tryd.underlying22 hi hz0 hz1 hz2 rfl (by decide) _ _ _ rfl ((O8.out.bn HV.out).alloc _) ⟨w7.heap.size, 0, none⟩ 1 1 [.int .i64 (numV q)] rfl rfl (app_news HN8) (app_one _) (by decide) (by have := hj; unfold maxLen; omega) (by have := hj; omega) (by have := B8.out.size; have := hb4.size; have := hb5.size; have := hb6.size; simp; omega) (w7.heap.size + 1) (by simp) ?_; intro g2 cap2 w9 hown9 hgrow9 hat9 hlt9; have kc9 := (O8.out.alloc (.cells #[.int .i64 (numV q)] 2)).keepR hgrow9 (blk_old K8.out) (.inl rfl); obtain ⟨u0, u1, uf0, uf1, ul⟩ := cells_two kc9 (Below.refl _ _); have O9 := Lib.hid ((O8.out.alloc (.cells #[.int .i64 (numV q)] 2)).rightN HV.out hown9 hgrow9 hat9 (by simp) HS2.out); have R9 := Lib.hid ((O8.out.alloc (.cells #[.int .i64 (numV q)] 2)).belowR (bl_alloc B8.out _) (by omega) hgrow9); have X9 := Lib.hid ((O8.out.alloc (.cells #[.int .i64 (numV q)] 2)).keepR hgrow9 (blk_old X8.out) (.inr (by omega))); have Y9 := Lib.hid ((O8.out.alloc (.cells #[.int .i64 (numV q)] 2)).keepR hgrow9 (blk_old Y8.out) (.inr (by omega))); clear hown9 hgrow9 hat9 hlt9))
          go_roundg (P.length - (j + 1))
          case measure => rw [HGK.out]; omega
          case rel => exact ⟨j + 1, by omega, rfl, by go_num, ⟨some ⟨g1, 0, none⟩, cap1, some ⟨g2, 0, none⟩, cap2, heap_setCell_same _ _ 1 _ _ _ kc9, O9.out.set 1 _⟩, kb_set Y9.out (by first | (simp; done) | (simp; omega)), kb_set X9.out (by first | (simp; done) | (simp; omega)), HO.out, by have r9 := R9.out; exact bl_set r9 (by simp; omega) _⟩
      · have H := Lib.hid (rc_bad hxm (pk_not (by rw [HQN.out]; exact hq2)))
        have HD := Lib.hid (rd_no H.out)
        go_wp2_with ((go_at_call 21; refine (split_at _ x 58 58 Q (by decide) HQN.out (by omega)).mono ?_; rintro e w4 ⟨gq, cq, curq, rfl, hgq, kq, hcurq, hb4⟩; have hO4 := Lib.hid (hO3.out.below hb4); have kc4 := Lib.hid (keep_blk (hb := hb4) (h := kc3.out)); have kr4 := Lib.hid (keep_blk (hb := hb4) (h := kr3.out)); have kx4 := Lib.hid (keep_blk (hb := hb4) (h := kx3.out)); obtain ⟨r0, r1, rf0, rf1, rl⟩ := cells_two kr4.out (Below.refl _ _)))
        refine bodyPost_ret (v := .tuple #[.agg #[.slice none 0 0, .slice none 0 0], .bool false]) (by simp [results, Tryd.results6, go_sem, r0, r1]) rfl ?_
        rw [H.out, HD.out.1, HD.out.2]
        exact ⟨none, 0, none, 0, rfl, OwnC.nil _ _ _ _, OwnC.nil _ _ _ _, Apart.none _, by repeat (first | exact Below.refl _ _ | assumption | apply bl_alloc | apply bl_drewN | apply Below.drew | (refine bl_set ?_ (by first | exact Nat.le_refl _ | (simp; done) | (simp; omega)) _) | (refine bl_trans ?_ (by assumption)))⟩
    · obtain rfl : j = P.length := by omega
      have hall := hok.all
      have HL := Lib.hid (show (rcL l).length = P.length by rw [rcL, HPN.out, List.length_map])
      have HV := Lib.hid (show (rcV l).length = P.length by rw [rcV, HPN.out, List.length_map])
      have EL : kL P P.length = rcL l := by rw [← HPN.out]; exact kL_all l
      have EV : kV P P.length = rcV l := by rw [← HPN.out]; exact kV_all l
      have hnp : P.length ≤ 1048576 := by
        have := parts_le (l := l) (by rw [HPN.out]; exact hall)
        rw [HPN.out] at this
        omega
      have HRC := Lib.hid (rc_of (l := l) (by rw [HPN.out]; exact hall))
      have hO := hO3.out
      rw [EL, EV] at hO
      obtain ⟨o1, o2, ap⟩ := hO.endsN HL.out HV.out
      clear EL EV hall hok hO
      obtain ⟨y0, y1, yf0, yf1, yl⟩ := cells_two kc3.out (Below.refl _ _)
      have HVC := Lib.hid (fun (v : Bool) (hv : rcB l = v) => (by
        have h := l05Ok_any wr (w2.heap.size + 2) A1 A2 c1 c2 (rcL l) (rcV l) (by rw [HL.out]; exact y0) (by rw [HV.out]; exact y1) o1.rc o2.rc (by rw [HL.out]; omega) (by rw [HV.out]; omega)
        rw [← HRC.out, hv] at h
        exact h : Calls Tryd.prog 23 #[.pointer (some ⟨(w2.heap.size + 2), 0, none⟩)] wr fun e w' => e = .returned (.bool v) ∧ Below wr.heap.size wr w'))
      cases k5 : rcB l
      · have HV5 := HVC.out _ k5
        have H := Lib.hid (rd_no k5)
        go_wp2_with (go_at_call 23; refine HV5.mono ?_; rintro e w4 ⟨rfl, hb4⟩; have kr4 := keep_blk (hb := hb4) (h := kr3.out); obtain ⟨r0, r1, rf0, rf1, rl⟩ := cells_two kr4 (Below.refl _ _))
        refine bodyPost_ret (v := .tuple #[.agg #[.slice none 0 0, .slice none 0 0], .bool false]) (by simp [results, Tryd.results6, go_sem, r0, r1]) rfl ?_
        rw [H.out.1, H.out.2, k5]
        exact ⟨none, 0, none, 0, rfl, OwnC.nil _ _ _ _, OwnC.nil _ _ _ _, Apart.none _, by repeat (first | exact Below.refl _ _ | assumption | apply bl_alloc | apply bl_drewN | apply Below.drew | (refine bl_set ?_ (by first | exact Nat.le_refl _ | (simp; done) | (simp; omega)) _) | (refine bl_trans ?_ (by assumption)))⟩
      · have HV5 := HVC.out _ k5
        have H := Lib.hid (rd_yes k5)
        go_wp2_with (go_at_call 23; refine HV5.mono ?_; rintro e w4 ⟨rfl, hb4⟩; have kr4 := keep_blk (hb := hb4) (h := kr3.out); obtain ⟨r0, r1, rf0, rf1, rl⟩ := cells_two kr4 (Below.refl _ _); have kc4 := keep_blk (hb := hb4) (h := kc3.out); obtain ⟨q0, q1, qf0, qf1, ql⟩ := cells_two kc4 (Below.refl _ _))
        refine bodyPost_ret (v := .tuple #[.agg #[.slice A1 P.length c1, .slice A2 P.length c2], .bool true]) (by simp [results, Tryd.results6, go_sem, r0, r1]) rfl ?_
        rw [H.out.1, H.out.2, k5]
        have z9 := hb4.size
        have zr := hb.size
        exact ⟨_, _, _, _, by rw [HL.out, HV.out], (((o1.below hb4).far (.inl (by first | (simp; done) | (simp; omega))) _).far (.inl (by first | (simp; done) | (simp; omega))) _).wide (by omega) (by simp; omega), (((o2.below hb4).far (.inl (by first | (simp; done) | (simp; omega))) _).far (.inl (by first | (simp; done) | (simp; omega))) _).wide (by omega) (by simp; omega), ap, by repeat (first | exact Below.refl _ _ | assumption | apply bl_alloc | apply bl_drewN | apply Below.drew | (refine bl_set ?_ (by first | exact Nat.le_refl _ | (simp; done) | (simp; omega)) _) | (refine bl_trans ?_ (by assumption)))⟩
end Go.Proofs.YtcjfdfjimcapkaaDoor
