/-
  Contract on reading a land: the reference. It holds for every text of at most 1048576 bytes.
-/
import Derived.IntWalk
import Derived.Test.YtcjfdfjimcapkaaDoorRdLPlain
import Derived.Test.YtcjfdfjimcapkaaDoorRdAt
import Derived.Test.YtcjfdfjimcapkaaDoorLand
import Derived.Test.YtcjfdfjimcapkaaDoorPair
import Derived.Deep.AppendLies
namespace Go.Proofs.YtcjfdfjimcapkaaDoor
set_option linter.unusedVariables false
set_option linter.unusedSimpArgs false
open Go.RowKit

theorem frz3 {w : World} {g : Nat} {cs : Array Value} {t : TypeId} (h : w.heap[g]? = some (.cells cs t (0, 0))) : w.frozen? ⟨g, 0, none⟩ = false ∧ w.frozen? ⟨g, 1, none⟩ = false ∧ w.frozen? ⟨g, 2, none⟩ = false := ⟨frozen_of_row w g 0 _ _ h, frozen_of_row w g 1 _ _ h, frozen_of_row w g 2 _ _ h⟩
/-- a land and whether it was read -/
def NewLandB (r c : Int) (hs : List Int) (b : Bool) (w : World) (e : Ending) (w' : World) : Prop :=
  ∃ A k, e = .returned (.tuple #[.agg #[.int .i64 r, .int .i64 c, .slice A hs.length k], .bool b]) ∧ OwnC w.heap.size w'.heap.size w' A (ints hs) ∧ Below w.heap.size w w'
theorem own2_lit (W : World) {T g : Nat} {c : Array Value} {t : TypeId} (hg : W.heap.size = g) :
    Own2 ((W.alloc (.cells #[] T)).alloc (.cells c t)) g (g + 1) T (.slice (some ⟨g, 0, none⟩) 0 0) [] (.slice none 0 0) [] := by
  subst hg
  have h1 : (W.alloc (.cells #[] T)).ownsRow W.heap.size T 1 (.slice (some ⟨W.heap.size, 0, none⟩) 0 0) 0 (ints []) := own_litB T W.heap.size (Nat.le_refl _)
  refine ⟨h1.alloc _, World.ownsRow_nil _ _ _ _, fun g hg hu => ?_, fun g hg => ?_, fun g hg => ?_, by simp⟩
  · cases hu
  · simp [Value.ownBlock] at hg
    omega
  · cases hg
/-- another new row stays through an append to the call's own list -/
theorem qkeep {W w1 : World} {q : Nat} {v : Value} {o : Obj} (hg : W.grownBy w1 v.ownBlock) (hk : W.heap[q]? = some o) (hq : v.ownBlock ≠ some q) : w1.heap[q]? = some o :=
  (hg.block q (Array.getElem?_eq_some_iff.1 hk).1 (fun e => hq e.symm)).trans hk
theorem spl_last (d : UInt8) (l : List UInt8) : spl d l = (spl d l).dropLast ++ [(spl d l).getLast (spl_ne d l)] := (List.dropLast_concat_getLast (spl_ne d l)).symm
set_option maxRecDepth 100000 in
set_option maxHeartbeats 1600000 in
theorem specReadL (w : World) (l : List UInt8) (hm : l.length ≤ 1048576) : Calls Tryd.prog 16 #[.string ⟨l.toArray⟩] w (NewLandB (rdR l) (rdC l) (rdH l) (rlB l) w) := by
  obtain ⟨i0, hi, hz0, hz1, hz2⟩ := info_parts infoInt
  obtain ⟨R, hR⟩ : ∃ R, rlR l = R := ⟨_, rfl⟩
  obtain ⟨z, hz⟩ : ∃ z, (spl 10 l).getLast (spl_ne 10 l) = z := ⟨_, rfl⟩
  have HR := Lib.hid hR
  have HPN := Lib.hid (show spl 10 l = R ++ [z] by rw [← hR, ← hz]; exact spl_last 10 l)
  have HZ := Lib.hid (show (spl 10 l).getLast? = some z by rw [List.getLast?_eq_some_getLast (spl_ne 10 l), hz])
  have hpl : R.length ≤ l.length := by
    have := spl_len 10 l
    rw [HPN.out] at this
    simp at this
    omega
  obtain ⟨cc, hcc⟩ : ∃ cc, rlC l = cc := ⟨_, rfl⟩
  have HC := Lib.hid hcc
  clear hR hz hcc
  by_cases h0 : z = []
  · subst h0
    cases hn : inR (R.length : Int) 1 12
    · have H := Lib.hid (rl_no2 (l := l) (by rw [HR.out]; exact hn))
      have HD := Lib.hid (rld_no H.out)
      have hn2 := inR_not hn
      clear hn
      go_enter Tryd.func16, Tryd.ntmps16
      go_wp2_with ((go_at_call 21; with_reducible refine (split_at _ l 10 10 (R ++ [[]]) (by decide) HPN.out hm).mono ?_; rintro e w2 ⟨g, c0, cur, rfl, hg, kg, hcur, hb2⟩; have hgl := blk_lt kg; have kr2 := keep_blk (hb := hb2) (h := heap_alloc_new w _); obtain ⟨r0, r1, r2, rl⟩ := row_three kr2; obtain ⟨rf0, rf1, rf2⟩ := frz3 kr2; have f0 := cell_sV kg hcur (i := R.length) (x := []) (by simp)))
      all_goals
        refine bodyPost_ret (v := .tuple #[.agg #[.int .i64 0, .int .i64 0, .slice none 0 0], .bool false]) (by simp [results, Tryd.results16, go_sem, r0, r1, r2]) rfl ?_
        rw [H.out, HD.out.1, HD.out.2.1, HD.out.2.2]
        exact ⟨none, 0, rfl, OwnC.nil _ _ _ _, by repeat (first | exact Below.refl _ _ | assumption | apply bl_alloc | apply bl_drewN | apply Below.drew | (refine bl_set ?_ (by first | exact Nat.le_refl _ | (simp; done) | (simp; omega)) _) | (refine bl_trans ?_ (by assumption)))⟩
    · have HN := Lib.hid hn
      have hn2 := inR_of hn
      clear hn
      go_enter Tryd.func16, Tryd.ntmps16
      go_wp2_with ((go_at_call 21; with_reducible refine (split_at _ l 10 10 (R ++ [[]]) (by decide) HPN.out hm).mono ?_; rintro e w2 ⟨g, c0, cur, rfl, hg, kg, hcur, hb2⟩; have hgl := blk_lt kg; have kr2 := keep_blk (hb := hb2) (h := heap_alloc_new w _); obtain ⟨r0, r1, r2, rl⟩ := row_three kr2; obtain ⟨rf0, rf1, rf2⟩ := frz3 kr2; have f0 := cell_sV kg hcur (i := R.length) (x := []) (by simp)))
      have zb2 := hb2.size
      simp at zb2 hg
      go_loopg [7] R.length (fun m iv wr => ∃ i C n1 A1 c1, i ≤ R.length ∧ m = R.length - i ∧ iv = .int .i64 (i : Int) ∧ Hid ((fT R i).length = n1) ∧ n1 ≤ i * 1048577 ∧ (¬ 0 < i → C = 0) ∧ (0 < i → C = (cc : Int)) ∧ wr.heap[(w2.heap.size + 1)]? = some (.cells #[.int .i64 (R.length : Int), .int .i64 C, .slice A1 n1 c1] 38 (0, 0)) ∧ Own2 wr w2.heap.size (w2.heap.size + 1) 2 (.slice A1 n1 c1) (fT R i) (.slice none 0 0) [] ∧ wr.heap[w.heap.size]? = some (.cells #[.int .i64 0, .int .i64 0, .slice none 0 0] 38 (0, 0)) ∧ wr.heap[g]? = some (.cells cur 9 (0, 0)) ∧ Hid (AllR cc R i) ∧ Below w.heap.size w wr ∧ w2.heap.size ≤ wr.heap.size)
      case atStart => exact ⟨0, 0, 0, some ⟨w2.heap.size, 0, none⟩, 0, Nat.zero_le _, rfl, rfl, Lib.hid rfl, Nat.zero_le _, fun _ => rfl, fun h => absurd h (by omega), by repeat (first | (refine blk_new ?_; (first | rfl | (simp; done) | (simp; omega))) | refine blk_drewN ?_ | refine blk_old ?_), own2_lit _ rfl, blk_old (blk_old kr2), blk_old (blk_old kg), Lib.hid (AllR.zero _ _), by repeat (first | exact Below.refl _ _ | assumption | apply bl_alloc | apply bl_drewN | apply Below.drew | (refine bl_set ?_ (by first | exact Nat.le_refl _ | (simp; done) | (simp; omega)) _) | (refine bl_trans ?_ (by assumption))), by simp; omega⟩
      case round =>
        clear kr2 kg f0 r0 r1 r2 rf0 rf1 rf2
        obtain ⟨i, C, n1, A1, c1, hi2, hgk, rfl, HN1, hn1, hC0, hC1, kb3, hO3, kr3, kg3, HAR, hb, hw2⟩ := hrel
        have HGK := Lib.hid hgk
        have hO3 := Lib.hid hO3
        have hlb3 := blk_lt kb3
        have hlr3 := blk_lt kr3
        clear hgk
        obtain ⟨x0, x1, x2, xl⟩ := row_three kb3
        obtain ⟨xf0, xf1, xf2⟩ := frz3 kb3
        obtain ⟨r0, r1, r2, rl⟩ := row_three kr3
        obtain ⟨rf0, rf1, rf2⟩ := frz3 kr3
        by_cases hlt : i < R.length
        · obtain ⟨x, hx⟩ : ∃ x, R[i]? = some x := ⟨_, List.getElem?_eq_getElem hlt⟩
          have f1 := cell_sV kg3 hcur (i := i) (x := x) (by rw [List.getElem?_append_left hlt]; exact hx)
          have hgl := blk_lt kg3
          have hxl : x.length ≤ l.length := spl_piece (d := 10) (by rw [HPN.out]; exact List.mem_append_left _ (List.mem_of_getElem? hx))
          obtain ⟨Q, hQ⟩ : ∃ Q, spl 32 x = Q := ⟨_, rfl⟩
          have HQ := Lib.hid hQ
          have hQl : Q.length ≤ x.length + 1 := by rw [← hQ]; exact spl_len 32 x
          clear hQ
          by_cases hi0 : 0 < i
          · obtain rfl := hC1 hi0
            have hie : ((i : Int) == 0) = false := by simp; omega
            by_cases hqc : Q.length = cc
            · obtain rfl : cc = Q.length := hqc.symm
              clear hC0 hC1
              go_wp2_with ((go_at_call 21; with_reducible refine (split_at _ x 32 32 Q (by decide) HQ.out (by omega)).mono ?_; rintro e w4 ⟨gq, cq, curq, rfl, hgq, kq, hcurq, hb4⟩; have hql := blk_lt kq; have kb4 := keep_blk (hb := hb4) (h := kb3); have kr4 := keep_blk (hb := hb4) (h := kr3); have kg4 := keep_blk (hb := hb4) (h := kg3); have z4 := hb4.size; have hO4 := Lib.hid (hO3.out.below hb4); obtain ⟨x0, x1, x2, xl⟩ := row_three kb4; obtain ⟨xf0, xf1, xf2⟩ := frz3 kb4; obtain ⟨r0, r1, r2, rl⟩ := row_three kr4; obtain ⟨rf0, rf1, rf2⟩ := frz3 kr4))
              have kbI := Lib.hid kb4
              have OI := hO4
              have krI := Lib.hid kr4
              have kgI := Lib.hid kg4
              have kqI := Lib.hid kq
              have RI := Lib.hid (bl_trans hb hb4)
              have zI : w2.heap.size ≤ w4.heap.size := by omega
              have QI : Hid (∀ b, (Value.slice A1 n1 c1).ownBlock = some b → b ≠ gq) := Lib.hid (fun b hb' => by have := (hO3.out.a.lt b hb').2; omega)
              go_loopg [9] Q.length (fun m2 kv wq => ∃ k A2 c2, k ≤ Q.length ∧ m2 = Q.length - k ∧ kv = .int .i64 (k : Int) ∧ wq.heap[(w2.heap.size + 1)]? = some (.cells #[.int .i64 (R.length : Int), .int .i64 (Q.length : Int), .slice A2 (n1 + k) c2] 38 (0, 0)) ∧ Own2 wq w2.heap.size (w2.heap.size + 1) 2 (.slice A2 (n1 + k) c2) (fT R i ++ wT x k) (.slice none 0 0) [] ∧ wq.heap[w.heap.size]? = some (.cells #[.int .i64 0, .int .i64 0, .slice none 0 0] 38 (0, 0)) ∧ wq.heap[g]? = some (.cells cur 9 (0, 0)) ∧ wq.heap[gq]? = some (.cells curq 9 (0, 0)) ∧ Hid (∀ j p, j < k → (spl 32 x)[j]? = some p → numB p = true) ∧ Hid (∀ b, (Value.slice A2 (n1 + k) c2).ownBlock = some b → b ≠ gq) ∧ Below w.heap.size w wq ∧ w2.heap.size ≤ wq.heap.size)
              case atStart => exact ⟨0, A1, c1, Nat.zero_le _, rfl, rfl, kbI.out, by rw [wT_zero, List.append_nil]; exact OI.out, krI.out, kgI.out, kqI.out, Lib.hid (fun j p h => by omega), QI, RI.out, zI⟩
              case round =>
                clear kbI OI krI kgI kqI RI zI QI
                obtain ⟨k, A2, c2, hk, hgk2, rfl, kb5, hO5, kr5, kg5, kq5, HAW, HQF, hb5, hw5⟩ := hrel
                have HGK2 := Lib.hid hgk2
                have hO5 := Lib.hid hO5
                have hlb5 := blk_lt kb5
                have hlr5 := blk_lt kr5
                clear hgk2
                by_cases hlt2 : k < Q.length
                · obtain ⟨p, hp⟩ : ∃ p, Q[k]? = some p := ⟨_, List.getElem?_eq_getElem hlt2⟩
                  have f3 := cell_sV kq5 hcurq hp
                  have hql5 := blk_lt kq5
                  have hpm : p ∈ spl 32 x := by rw [HQ.out]; exact List.mem_of_getElem? hp
                  have hpx : p.length ≤ x.length := spl_piece hpm
                  cases hnb : numB p
                  · have H := Lib.hid (rl_no3 (l := l) (x := x) (by rw [HR.out]; exact List.mem_of_getElem? hx) (row_no2 hpm hnb))
                    have HD := Lib.hid (rld_no H.out)
                    have HNB := Lib.hid hnb
                    clear hnb
                    go_wp2_with ((go_at_call 22; with_reducible refine (number_at _ p _ HNB.out (by omega)).mono ?_; rintro e w6 ⟨rfl, hb6⟩; have kq6 := keep_blk (hb := hb6) (h := kq5); have kb6 := keep_blk (hb := hb6) (h := kb5); have kr6 := keep_blk (hb := hb6) (h := kr5); have kg6 := keep_blk (hb := hb6) (h := kg5); have z6 := hb6.size; have hO6 := Lib.hid (hO5.out.below hb6); obtain ⟨x0, x1, x2, xl⟩ := row_three kb6; obtain ⟨xf0, xf1, xf2⟩ := frz3 kb6; obtain ⟨r0, r1, r2, rl⟩ := row_three kr6; obtain ⟨rf0, rf1, rf2⟩ := frz3 kr6))
                    refine bodyPost_ret (v := .tuple #[.agg #[.int .i64 0, .int .i64 0, .slice none 0 0], .bool false]) (by simp [results, Tryd.results16, go_sem, r0, r1, r2]) rfl ?_
                    rw [H.out, HD.out.1, HD.out.2.1, HD.out.2.2]
                    exact ⟨none, 0, rfl, OwnC.nil _ _ _ _, by repeat (first | exact Below.refl _ _ | assumption | apply bl_alloc | apply bl_drewN | apply Below.drew | (refine bl_set ?_ (by first | exact Nat.le_refl _ | (simp; done) | (simp; omega)) _) | (refine bl_trans ?_ (by assumption)))⟩
                  · have HNB := Lib.hid hnb
                    have HLN := Lib.hid (show (fT R i ++ wT x k).length = n1 + k by rw [List.length_append, HN1.out, wT_len (by rw [HQ.out]; omega)])
                    have HLS := Lib.hid (show fT R i ++ wT x (k + 1) = (fT R i ++ wT x k) ++ [numV p] by rw [wT_next (by rw [HQ.out]; exact hp), List.append_assoc])
                    have HAN : Hid (∀ j p, j < k + 1 → (spl 32 x)[j]? = some p → numB p = true) := Lib.hid (fun j q hj hq => by
                      by_cases e : j = k
                      · subst e; rw [HQ.out, hp] at hq; cases hq; exact hnb
                      · exact HAW.out j q (by omega) hq)
                    clear hnb
                    go_wp2_with (first | (go_at_call 22; with_reducible refine (number_at _ p _ HNB.out (by omega)).mono ?_; rintro e w6 ⟨rfl, hb6⟩; have kq6 := keep_blk (hb := hb6) (h := kq5); have kb6 := keep_blk (hb := hb6) (h := kb5); have kr6 := keep_blk (hb := hb6) (h := kr5); have kg6 := keep_blk (hb := hb6) (h := kg5); have z6 := hb6.size; have hO6 := Lib.hid (hO5.out.below hb6); obtain ⟨x0, x1, x2, xl⟩ := row_three kb6; obtain ⟨xf0, xf1, xf2⟩ := frz3 kb6; obtain ⟨r0, r1, r2, rl⟩ := row_three kr6; obtain ⟨rf0, rf1, rf2⟩ := frz3 kr6) | (at_builtin; refine wpList_append_lies _ rfl _ _ 22 rfl w2.heap.size 2 i0 (.int .i64 0) 1 8 Tryd.underlying22 hi hz0 hz1 hz2 rfl (by decide) _ _ _ rfl ((hO6.out.alloc (.cells #[.int .i64 (numV p)] 2)).an HLN.out) ⟨w6.heap.size, 0, none⟩ 1 1 [.int .i64 (numV p)] rfl rfl (by first | exact app_news (heap_alloc_new _ _) | exact app_news (heap_alloc_new w6 _)) (app_one _) (by decide) (by unfold maxLen; omega) (by omega) (by first | omega | (simp; done) | (simp; omega)) (w6.heap.size + 1) (by simp) ?_; intro g7 cap7 w7 hown7 hgrow7 hat7 hlt7; have kb7 := (hO6.out.alloc (.cells #[.int .i64 (numV p)] 2)).keepL hgrow7 (blk_old kb6) (.inl rfl); have kr7 := (hO6.out.alloc (.cells #[.int .i64 (numV p)] 2)).keepL hgrow7 (blk_old kr6) (.inr (by omega)); have kg7 := (hO6.out.alloc (.cells #[.int .i64 (numV p)] 2)).keepL hgrow7 (blk_old kg6) (.inr (by omega)); have kq7 := qkeep hgrow7 (blk_old kq6) (fun e => HQF.out _ e rfl); have O7 := Lib.hid ((hO6.out.alloc (.cells #[.int .i64 (numV p)] 2)).leftN HLN.out hown7 hgrow7 hat7 (by simp) HLS.out); have R7 := Lib.hid ((hO6.out.alloc (.cells #[.int .i64 (numV p)] 2)).belowL (bl_alloc (bl_trans hb5 hb6) (.cells #[.int .i64 (numV p)] 2)) (by omega) hgrow7); have z7 := hgrow7.size; have QF7 : Hid (∀ b, (Value.slice (some ⟨g7, 0, none⟩) (n1 + k + 1) cap7).ownBlock = some b → b ≠ gq) := Lib.hid (fun b hb' => by simp [Value.ownBlock] at hb'; subst hb'; rcases hat7 with e | e; exact HQF.out _ e; omega); obtain ⟨y0, y1, y2, yl⟩ := row_three kb7; obtain ⟨yf0, yf1, yf2⟩ := frz3 kb7; clear hown7 hgrow7 hat7 hlt7))
                    go_roundg (Q.length - (k + 1))
                    case measure => rw [HGK2.out]; omega
                    case rel => exact ⟨k + 1, some ⟨g7, 0, none⟩, cap7, by omega, rfl, by go_num, heap_setCell_same _ _ 2 _ _ _ kb7, O7.out.set 2 _, kb_set kr7 (by first | omega | (simp; done) | (simp; omega)), kb_set kg7 (by first | omega | (simp; done) | (simp; omega)), kb_set kq7 (by first | omega | (simp; done) | (simp; omega)), HAN, QF7, bl_set R7.out (by first | omega | (simp; done) | (simp; omega)) _, by simp at z7 ⊢; omega⟩
                · obtain rfl : k = Q.length := by omega
                  have HROW : rowB Q.length x = true := row_yes (by rw [HQ.out]) (fun p hp => by
                    obtain ⟨j, hj, rfl⟩ := List.getElem_of_mem hp
                    exact HAW.out j _ (by rw [HQ.out] at hj; exact hj) (List.getElem?_eq_getElem hj))
                  have HAR2 := Lib.hid (HAR.out.next hx HROW)
                  have EF : fT R i ++ wT x Q.length = fT R (i + 1) := by rw [fT_next hx, ← wT_all, HQ.out]
                  have HN2 : Hid ((fT R (i + 1)).length = n1 + Q.length) := Lib.hid (by rw [← EF, List.length_append, HN1.out, wT_len (by rw [HQ.out]; omega)])
                  have O5 := hO5.out
                  rw [EF] at O5
                  have O5 := Lib.hid O5
                  clear EF HROW
                  go_wp2
                  go_roundg (R.length - (i + 1))
                  case measure => rw [HGK.out]; omega
                  case rel => exact ⟨i + 1, (Q.length : Int), n1 + Q.length, A2, c2, by omega, rfl, by go_num, HN2, by omega, fun h => absurd (Nat.succ_pos i) h, fun _ => rfl, kb5, O5.out, kr5, kg5, HAR2, hb5, hw5⟩
            · have H := Lib.hid (rl_no3 (l := l) (x := x) (by rw [HR.out]; exact List.mem_of_getElem? hx) (row_no1 (by rw [HQ.out, HC.out]; exact hqc)))
              have HD := Lib.hid (rld_no H.out)
              have h5 : ((Q.length : Int) != (cc : Int)) = true := by simp; omega
              go_wp2_with ((go_at_call 21; with_reducible refine (split_at _ x 32 32 Q (by decide) HQ.out (by omega)).mono ?_; rintro e w4 ⟨gq, cq, curq, rfl, hgq, kq, hcurq, hb4⟩; have hql := blk_lt kq; have kb4 := keep_blk (hb := hb4) (h := kb3); have kr4 := keep_blk (hb := hb4) (h := kr3); have kg4 := keep_blk (hb := hb4) (h := kg3); have z4 := hb4.size; have hO4 := Lib.hid (hO3.out.below hb4); obtain ⟨x0, x1, x2, xl⟩ := row_three kb4; obtain ⟨xf0, xf1, xf2⟩ := frz3 kb4; obtain ⟨r0, r1, r2, rl⟩ := row_three kr4; obtain ⟨rf0, rf1, rf2⟩ := frz3 kr4))
              refine bodyPost_ret (v := .tuple #[.agg #[.int .i64 0, .int .i64 0, .slice none 0 0], .bool false]) (by simp [results, Tryd.results16, go_sem, r0, r1, r2]) rfl ?_
              rw [H.out, HD.out.1, HD.out.2.1, HD.out.2.2]
              exact ⟨none, 0, rfl, OwnC.nil _ _ _ _, by repeat (first | exact Below.refl _ _ | assumption | apply bl_alloc | apply bl_drewN | apply Below.drew | (refine bl_set ?_ (by first | exact Nat.le_refl _ | (simp; done) | (simp; omega)) _) | (refine bl_trans ?_ (by assumption)))⟩
          · obtain rfl : i = 0 := by omega
            obtain rfl := hC0 hi0
            obtain rfl : cc = Q.length := by
              rw [← HC.out, rlC, HR.out, ← HQ.out]
              cases hR0 : R with
              | nil => rw [hR0] at hx; simp at hx
              | cons y t => rw [hR0] at hx; simp at hx; rw [hx]; rfl
            clear hC0 hC1
            go_wp2_with ((go_at_call 21; with_reducible refine (split_at _ x 32 32 Q (by decide) HQ.out (by omega)).mono ?_; rintro e w4 ⟨gq, cq, curq, rfl, hgq, kq, hcurq, hb4⟩; have hql := blk_lt kq; have kb4 := keep_blk (hb := hb4) (h := kb3); have kr4 := keep_blk (hb := hb4) (h := kr3); have kg4 := keep_blk (hb := hb4) (h := kg3); have z4 := hb4.size; have hO4 := Lib.hid (hO3.out.below hb4); obtain ⟨x0, x1, x2, xl⟩ := row_three kb4; obtain ⟨xf0, xf1, xf2⟩ := frz3 kb4; obtain ⟨r0, r1, r2, rl⟩ := row_three kr4; obtain ⟨rf0, rf1, rf2⟩ := frz3 kr4))
            have kbI := Lib.hid (heap_setCell_same _ _ 1 _ _ (.int .i64 (Q.length : Int)) kb4)
            have OI := Lib.hid (hO4.out.set 1 (.int .i64 (Q.length : Int)))
            have krI := Lib.hid (kb_set (p := ⟨(w2.heap.size + 1), 1, none⟩) (u := .int .i64 (Q.length : Int)) kr4 (by first | omega | (simp; done) | (simp; omega)))
            have kgI := Lib.hid (kb_set (p := ⟨(w2.heap.size + 1), 1, none⟩) (u := .int .i64 (Q.length : Int)) kg4 (by first | omega | (simp; done) | (simp; omega)))
            have kqI := Lib.hid (kb_set (p := ⟨(w2.heap.size + 1), 1, none⟩) (u := .int .i64 (Q.length : Int)) kq (by first | omega | (simp; done) | (simp; omega)))
            have RI := Lib.hid (bl_set (p := ⟨(w2.heap.size + 1), 1, none⟩) (bl_trans hb hb4) (by first | omega | (simp; done) | (simp; omega)) (.int .i64 (Q.length : Int)))
            have zI : w2.heap.size ≤ (w4.setCell ⟨(w2.heap.size + 1), 1, none⟩ (.int .i64 (Q.length : Int))).heap.size := by simp; omega
            have QI : Hid (∀ b, (Value.slice A1 n1 c1).ownBlock = some b → b ≠ gq) := Lib.hid (fun b hb' => by have := (hO3.out.a.lt b hb').2; omega)
            go_loopg [9] Q.length (fun m2 kv wq => ∃ k A2 c2, k ≤ Q.length ∧ m2 = Q.length - k ∧ kv = .int .i64 (k : Int) ∧ wq.heap[(w2.heap.size + 1)]? = some (.cells #[.int .i64 (R.length : Int), .int .i64 (Q.length : Int), .slice A2 (n1 + k) c2] 38 (0, 0)) ∧ Own2 wq w2.heap.size (w2.heap.size + 1) 2 (.slice A2 (n1 + k) c2) (fT R 0 ++ wT x k) (.slice none 0 0) [] ∧ wq.heap[w.heap.size]? = some (.cells #[.int .i64 0, .int .i64 0, .slice none 0 0] 38 (0, 0)) ∧ wq.heap[g]? = some (.cells cur 9 (0, 0)) ∧ wq.heap[gq]? = some (.cells curq 9 (0, 0)) ∧ Hid (∀ j p, j < k → (spl 32 x)[j]? = some p → numB p = true) ∧ Hid (∀ b, (Value.slice A2 (n1 + k) c2).ownBlock = some b → b ≠ gq) ∧ Below w.heap.size w wq ∧ w2.heap.size ≤ wq.heap.size)
            case atStart => exact ⟨0, A1, c1, Nat.zero_le _, rfl, rfl, kbI.out, by rw [wT_zero, List.append_nil]; exact OI.out, krI.out, kgI.out, kqI.out, Lib.hid (fun j p h => by omega), QI, RI.out, zI⟩
            case round =>
              clear kbI OI krI kgI kqI RI zI QI
              obtain ⟨k, A2, c2, hk, hgk2, rfl, kb5, hO5, kr5, kg5, kq5, HAW, HQF, hb5, hw5⟩ := hrel
              have HGK2 := Lib.hid hgk2
              have hO5 := Lib.hid hO5
              have hlb5 := blk_lt kb5
              have hlr5 := blk_lt kr5
              clear hgk2
              by_cases hlt2 : k < Q.length
              · obtain ⟨p, hp⟩ : ∃ p, Q[k]? = some p := ⟨_, List.getElem?_eq_getElem hlt2⟩
                have f3 := cell_sV kq5 hcurq hp
                have hql5 := blk_lt kq5
                have hpm : p ∈ spl 32 x := by rw [HQ.out]; exact List.mem_of_getElem? hp
                have hpx : p.length ≤ x.length := spl_piece hpm
                cases hnb : numB p
                · have H := Lib.hid (rl_no3 (l := l) (x := x) (by rw [HR.out]; exact List.mem_of_getElem? hx) (row_no2 hpm hnb))
                  have HD := Lib.hid (rld_no H.out)
                  have HNB := Lib.hid hnb
                  clear hnb
                  go_wp2_with ((go_at_call 22; with_reducible refine (number_at _ p _ HNB.out (by omega)).mono ?_; rintro e w6 ⟨rfl, hb6⟩; have kq6 := keep_blk (hb := hb6) (h := kq5); have kb6 := keep_blk (hb := hb6) (h := kb5); have kr6 := keep_blk (hb := hb6) (h := kr5); have kg6 := keep_blk (hb := hb6) (h := kg5); have z6 := hb6.size; have hO6 := Lib.hid (hO5.out.below hb6); obtain ⟨x0, x1, x2, xl⟩ := row_three kb6; obtain ⟨xf0, xf1, xf2⟩ := frz3 kb6; obtain ⟨r0, r1, r2, rl⟩ := row_three kr6; obtain ⟨rf0, rf1, rf2⟩ := frz3 kr6))
                  refine bodyPost_ret (v := .tuple #[.agg #[.int .i64 0, .int .i64 0, .slice none 0 0], .bool false]) (by simp [results, Tryd.results16, go_sem, r0, r1, r2]) rfl ?_
                  rw [H.out, HD.out.1, HD.out.2.1, HD.out.2.2]
                  exact ⟨none, 0, rfl, OwnC.nil _ _ _ _, by repeat (first | exact Below.refl _ _ | assumption | apply bl_alloc | apply bl_drewN | apply Below.drew | (refine bl_set ?_ (by first | exact Nat.le_refl _ | (simp; done) | (simp; omega)) _) | (refine bl_trans ?_ (by assumption)))⟩
                · have HNB := Lib.hid hnb
                  have HLN := Lib.hid (show (fT R 0 ++ wT x k).length = n1 + k by rw [List.length_append, HN1.out, wT_len (by rw [HQ.out]; omega)])
                  have HLS := Lib.hid (show fT R 0 ++ wT x (k + 1) = (fT R 0 ++ wT x k) ++ [numV p] by rw [wT_next (by rw [HQ.out]; exact hp), List.append_assoc])
                  have HAN : Hid (∀ j p, j < k + 1 → (spl 32 x)[j]? = some p → numB p = true) := Lib.hid (fun j q hj hq => by
                    by_cases e : j = k
                    · subst e; rw [HQ.out, hp] at hq; cases hq; exact hnb
                    · exact HAW.out j q (by omega) hq)
                  clear hnb
                  go_wp2_with (first | (go_at_call 22; with_reducible refine (number_at _ p _ HNB.out (by omega)).mono ?_; rintro e w6 ⟨rfl, hb6⟩; have kq6 := keep_blk (hb := hb6) (h := kq5); have kb6 := keep_blk (hb := hb6) (h := kb5); have kr6 := keep_blk (hb := hb6) (h := kr5); have kg6 := keep_blk (hb := hb6) (h := kg5); have z6 := hb6.size; have hO6 := Lib.hid (hO5.out.below hb6); obtain ⟨x0, x1, x2, xl⟩ := row_three kb6; obtain ⟨xf0, xf1, xf2⟩ := frz3 kb6; obtain ⟨r0, r1, r2, rl⟩ := row_three kr6; obtain ⟨rf0, rf1, rf2⟩ := frz3 kr6) | (at_builtin; refine wpList_append_lies _ rfl _ _ 22 rfl w2.heap.size 2 i0 (.int .i64 0) 1 8 Tryd.underlying22 hi hz0 hz1 hz2 rfl (by decide) _ _ _ rfl ((hO6.out.alloc (.cells #[.int .i64 (numV p)] 2)).an HLN.out) ⟨w6.heap.size, 0, none⟩ 1 1 [.int .i64 (numV p)] rfl rfl (by first | exact app_news (heap_alloc_new _ _) | exact app_news (heap_alloc_new w6 _)) (app_one _) (by decide) (by unfold maxLen; omega) (by omega) (by first | omega | (simp; done) | (simp; omega)) (w6.heap.size + 1) (by simp) ?_; intro g7 cap7 w7 hown7 hgrow7 hat7 hlt7; have kb7 := (hO6.out.alloc (.cells #[.int .i64 (numV p)] 2)).keepL hgrow7 (blk_old kb6) (.inl rfl); have kr7 := (hO6.out.alloc (.cells #[.int .i64 (numV p)] 2)).keepL hgrow7 (blk_old kr6) (.inr (by omega)); have kg7 := (hO6.out.alloc (.cells #[.int .i64 (numV p)] 2)).keepL hgrow7 (blk_old kg6) (.inr (by omega)); have kq7 := qkeep hgrow7 (blk_old kq6) (fun e => HQF.out _ e rfl); have O7 := Lib.hid ((hO6.out.alloc (.cells #[.int .i64 (numV p)] 2)).leftN HLN.out hown7 hgrow7 hat7 (by simp) HLS.out); have R7 := Lib.hid ((hO6.out.alloc (.cells #[.int .i64 (numV p)] 2)).belowL (bl_alloc (bl_trans hb5 hb6) (.cells #[.int .i64 (numV p)] 2)) (by omega) hgrow7); have z7 := hgrow7.size; have QF7 : Hid (∀ b, (Value.slice (some ⟨g7, 0, none⟩) (n1 + k + 1) cap7).ownBlock = some b → b ≠ gq) := Lib.hid (fun b hb' => by simp [Value.ownBlock] at hb'; subst hb'; rcases hat7 with e | e; exact HQF.out _ e; omega); obtain ⟨y0, y1, y2, yl⟩ := row_three kb7; obtain ⟨yf0, yf1, yf2⟩ := frz3 kb7; clear hown7 hgrow7 hat7 hlt7))
                  go_roundg (Q.length - (k + 1))
                  case measure => rw [HGK2.out]; omega
                  case rel => exact ⟨k + 1, some ⟨g7, 0, none⟩, cap7, by omega, rfl, by go_num, heap_setCell_same _ _ 2 _ _ _ kb7, O7.out.set 2 _, kb_set kr7 (by first | omega | (simp; done) | (simp; omega)), kb_set kg7 (by first | omega | (simp; done) | (simp; omega)), kb_set kq7 (by first | omega | (simp; done) | (simp; omega)), HAN, QF7, bl_set R7.out (by first | omega | (simp; done) | (simp; omega)) _, by simp at z7 ⊢; omega⟩
              · obtain rfl : k = Q.length := by omega
                have HROW : rowB Q.length x = true := row_yes (by rw [HQ.out]) (fun p hp => by
                  obtain ⟨j, hj, rfl⟩ := List.getElem_of_mem hp
                  exact HAW.out j _ (by rw [HQ.out] at hj; exact hj) (List.getElem?_eq_getElem hj))
                have HAR2 := Lib.hid (HAR.out.next hx HROW)
                have EF : fT R 0 ++ wT x Q.length = fT R (0 + 1) := by rw [fT_next hx, ← wT_all, HQ.out]
                have HN2 : Hid ((fT R (0 + 1)).length = n1 + Q.length) := Lib.hid (by rw [← EF, List.length_append, HN1.out, wT_len (by rw [HQ.out]; omega)])
                have O5 := hO5.out
                rw [EF] at O5
                have O5 := Lib.hid O5
                clear EF HROW
                go_wp2
                go_roundg (R.length - (0 + 1))
                case measure => rw [HGK.out]; omega
                case rel => exact ⟨0 + 1, (Q.length : Int), n1 + Q.length, A2, c2, by omega, rfl, by go_num, HN2, by omega, fun h => absurd (Nat.succ_pos 0) h, fun _ => rfl, kb5, O5.out, kr5, kg5, HAR2, hb5, hw5⟩
        · obtain rfl : i = R.length := by omega
          obtain rfl := hC1 (by omega)
          have HALL : R.all (rowB cc) = true := HAR.out.all
          obtain ⟨o1, _, _⟩ := hO3.out.endsN HN1.out rfl
          have HO := Lib.hid o1
          have hln : (fT R R.length).length ≤ l.length := by
            have h1 := flt_le HALL
            have h2 := rl_last (l := l) HZ.out
            rw [HR.out] at h2
            rw [h2] at h1
            rw [fT_all]
            exact h1
          have HRO := Lib.hid (rl_of (l := l) HZ.out (by rw [HR.out]; exact HN.out) (by rw [HR.out, HC.out]; exact HALL))
          have HVC := Lib.hid (fun (b : Bool) (hv : landOk (R.length : Int) (cc : Int) (fT R R.length) = b) => (by
            have h := l03Ok_any wr (w2.heap.size + 1) (R.length : Int) (cc : Int) A1 c1 (fT R R.length) x0 x1 (by rw [HN1.out]; exact x2) HO.out.rc (by omega)
            rw [hv] at h
            exact h : Calls Tryd.prog 37 #[.pointer (some ⟨(w2.heap.size + 1), 0, none⟩)] wr fun e w' => e = .returned (.bool b) ∧ ∃ d, w' = wr.drewN d))
          clear o1 hln HALL
          cases k5 : landOk (R.length : Int) (cc : Int) (fT R R.length)
          · have HV5 := HVC.out _ k5
            have H := Lib.hid (show rlB l = false by rw [HRO.out, HR.out, HC.out, ← fT_all, k5])
            have HD := Lib.hid (rld_no H.out)
            clear k5
            go_wp2_with (go_at_call 37; refine HV5.mono ?_; rintro e w' ⟨rfl, dd, rfl⟩; have kb4 := blk_drewN (n := dd) kb3; have kr4 := blk_drewN (n := dd) kr3; obtain ⟨x0, x1, x2, xl⟩ := row_three kb4; obtain ⟨xf0, xf1, xf2⟩ := frz3 kb4; obtain ⟨r0, r1, r2, rl⟩ := row_three kr4; obtain ⟨rf0, rf1, rf2⟩ := frz3 kr4)
            refine bodyPost_ret (v := .tuple #[.agg #[.int .i64 0, .int .i64 0, .slice none 0 0], .bool false]) (by simp [results, Tryd.results16, go_sem, r0, r1, r2]) rfl ?_
            rw [H.out, HD.out.1, HD.out.2.1, HD.out.2.2]
            exact ⟨none, 0, rfl, OwnC.nil _ _ _ _, by repeat (first | exact Below.refl _ _ | assumption | apply bl_alloc | apply bl_drewN | apply Below.drew | (refine bl_set ?_ (by first | exact Nat.le_refl _ | (simp; done) | (simp; omega)) _) | (refine bl_trans ?_ (by assumption)))⟩
          · have HV5 := HVC.out _ k5
            have H := Lib.hid (show rlB l = true by rw [HRO.out, HR.out, HC.out, ← fT_all, k5])
            have HD := Lib.hid (rld_yes H.out)
            clear k5
            go_wp2_with (go_at_call 37; refine HV5.mono ?_; rintro e w' ⟨rfl, dd, rfl⟩; have kb4 := blk_drewN (n := dd) kb3; have kr4 := blk_drewN (n := dd) kr3; obtain ⟨x0, x1, x2, xl⟩ := row_three kb4; obtain ⟨xf0, xf1, xf2⟩ := frz3 kb4; obtain ⟨r0, r1, r2, rl⟩ := row_three kr4; obtain ⟨rf0, rf1, rf2⟩ := frz3 kr4)
            refine bodyPost_ret (v := .tuple #[.agg #[.int .i64 (R.length : Int), .int .i64 (cc : Int), .slice A1 n1 c1], .bool true]) (by simp [results, Tryd.results16, go_sem, r0, r1, r2]) rfl ?_
            rw [H.out, HD.out.1, HD.out.2.1, HD.out.2.2, HR.out, HC.out]
            have zr := hb.size
            exact ⟨_, _, by rw [← fT_all, HN1.out], by rw [← fT_all]; exact ((((OwnC.drewN HO.out dd).far (.inl (by first | omega | (simp; done) | (simp; omega))) _).far (.inl (by first | omega | (simp; done) | (simp; omega))) _).far (.inl (by first | omega | (simp; done) | (simp; omega))) _).wide (by omega) (by simp), by repeat (first | exact Below.refl _ _ | assumption | apply bl_alloc | apply bl_drewN | apply Below.drew | (refine bl_set ?_ (by first | exact Nat.le_refl _ | (simp; done) | (simp; omega)) _) | (refine bl_trans ?_ (by assumption)))⟩
  · have H := Lib.hid (rl_no1 (l := l) (by rw [HZ.out]; simpa using h0))
    have HD := Lib.hid (rld_no H.out)
    have h1 : (z == []) = false := by simpa using h0
    go_enter Tryd.func16, Tryd.ntmps16
    go_wp2_with ((go_at_call 21; with_reducible refine (split_at _ l 10 10 (R ++ [z]) (by decide) HPN.out hm).mono ?_; rintro e w2 ⟨g, c0, cur, rfl, hg, kg, hcur, hb2⟩; have hgl := blk_lt kg; have kr2 := keep_blk (hb := hb2) (h := heap_alloc_new w _); obtain ⟨r0, r1, r2, rl⟩ := row_three kr2; obtain ⟨rf0, rf1, rf2⟩ := frz3 kr2; have f0 := cell_sV kg hcur (i := R.length) (x := z) (by simp)))
    refine bodyPost_ret (v := .tuple #[.agg #[.int .i64 0, .int .i64 0, .slice none 0 0], .bool false]) (by simp [results, Tryd.results16, go_sem, r0, r1, r2]) rfl ?_
    rw [H.out, HD.out.1, HD.out.2.1, HD.out.2.2]
    exact ⟨none, 0, rfl, OwnC.nil _ _ _ _, by repeat (first | exact Below.refl _ _ | assumption | apply bl_alloc | apply bl_drewN | apply Below.drew | (refine bl_set ?_ (by first | exact Nat.le_refl _ | (simp; done) | (simp; omega)) _) | (refine bl_trans ?_ (by assumption)))⟩

end Go.Proofs.YtcjfdfjimcapkaaDoor
