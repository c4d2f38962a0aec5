/-
  Contracts: two curves joined, the program. They hold for curves of at most 1048576 numbers a list.
-/
import Derived.IntWalk
import Derived.Test.YtcgnnlgakfndaaaJoin2Plain
import Derived.Test.YtcgnnlgakfndaaaCurve2
import Derived.Test.YtcgnnlgakfndaaaPair
import Derived.Test.YtcgnnlgakfndaaaMarks
import Derived.Test.YtcgnnlgakfndaaaCut
import Derived.Test.YtcgnnlgakfndaaaHas
import Derived.Test.YtcgnnlgakfndaaaVol
import Derived.Test.YtcgnnlgakfndaaaLast
import Derived.Deep.RegionHeld3
import Derived.Deep.AppendLies
import Derived.Deep.DeepCutAuto
namespace Go.Proofs.Ytcgnnlgakfndaaa
set_option linter.unusedVariables false
set_option linter.unusedSimpArgs false
open Go.RowKit

theorem has_lit {xs : List Int} {x : Int} {v : Bool} (hv : hasB xs x = v) (w : World) (A : Option Addr) (c : Nat) (hA : RC w A (ints xs)) (hm : xs.length ≤ 1048576) :
    Calls Try.prog 52 #[.slice A xs.length c, .int .i64 x] w fun e w' => e = .returned (.bool v) ∧ w = w' := by rw [← hv]; exact has_any w A c xs x hA hm
theorem joQ_lo {ar bs : List Int} {lo hi y : Int} (h : y = lo) : joQ ar bs lo hi y = true := by simp [joQ, h]
theorem joQ_hi {ar bs : List Int} {lo hi y : Int} (h : y = hi) : joQ ar bs lo hi y = true := by simp [joQ, h]
theorem joQ_a {ar bs : List Int} {lo hi y : Int} (h : hasB ar y = true) : joQ ar bs lo hi y = true := by simp [joQ, h]
theorem joQ_b {ar bs : List Int} {lo hi y : Int} (h : hasB bs y = true) : joQ ar bs lo hi y = true := by simp [joQ, h]
theorem joQ_no {ar bs : List Int} {lo hi y : Int} (h1 : ¬ y = lo) (h2 : ¬ y = hi) (h3 : hasB ar y = false) (h4 : hasB bs y = false) : joQ ar bs lo hi y = false := by simp [joQ, h1, h2, h3, h4]
def joT (ar av bs bv : List Int) (j : Nat) : List Int := flTo (joQ ar bs (joLo ar bs) (joHi ar bs)) (joLo ar bs) j
def joU (ar av bs bv : List Int) (j : Nat) : List Int := (joT ar av bs bv j).map (joF ar av bs bv)
theorem joU_len (ar av bs bv : List Int) (j : Nat) : (joU ar av bs bv j).length = (joT ar av bs bv j).length := by simp [joU]
theorem joT_len (ar av bs bv : List Int) (j : Nat) : (joT ar av bs bv j).length ≤ j := flTo_len _ _ _
theorem joT_yes {ar av bs bv : List Int} {j : Nat} (h : joQ ar bs (joLo ar bs) (joHi ar bs) (joLo ar bs + (j : Int)) = true) : joT ar av bs bv (j + 1) = joT ar av bs bv j ++ [joLo ar bs + (j : Int)] := flTo_yes h
theorem joT_no {ar av bs bv : List Int} {j : Nat} (h : joQ ar bs (joLo ar bs) (joHi ar bs) (joLo ar bs + (j : Int)) = false) : joT ar av bs bv (j + 1) = joT ar av bs bv j := flTo_no h
theorem joU_yes {ar av bs bv : List Int} {j : Nat} (h : joQ ar bs (joLo ar bs) (joHi ar bs) (joLo ar bs + (j : Int)) = true) : joU ar av bs bv (j + 1) = joU ar av bs bv j ++ [joF ar av bs bv (joLo ar bs + (j : Int))] := by simp [joU, joT_yes h]
theorem joU_no {ar av bs bv : List Int} {j : Nat} (h : joQ ar bs (joLo ar bs) (joHi ar bs) (joLo ar bs + (j : Int)) = false) : joU ar av bs bv (j + 1) = joU ar av bs bv j := by simp [joU, joT_no h]
theorem jo_facts {ar av bs bv : List Int} (h : curveOk ar av = true) (h2 : curveOk bs bv = true) : 2 ≤ ar.length ∧ ar.length ≤ 12 ∧ 2 ≤ bs.length ∧ bs.length ≤ 12 ∧ -2000 ≤ joLo ar bs ∧ joLo ar bs ≤ 2000 ∧ -2000 ≤ joHi ar bs ∧ joHi ar bs ≤ 2000 ∧ gt ar 0 ≤ joLo ar bs ∧ gt bs 0 ≤ joLo ar bs := by
  have c1 := curveOk_of h
  have c2 := curveOk_of h2
  have m1 := mx_bd (gt ar 0) (gt bs 0)
  have m2 := mn_bd (gt ar (ar.length - 1)) (gt bs (bs.length - 1))
  have r1 := c1.2.2.2.1
  have r2 := c2.2.2.2.1
  have p1 := r1 0 (by omega)
  have p2 := r1 (ar.length - 1) (by omega)
  have q1 := r2 0 (by omega)
  have q2 := r2 (bs.length - 1) (by omega)
  unfold joLo joHi
  omega
set_option maxRecDepth 100000 in
set_option maxHeartbeats 12800000 in
theorem implJoin (w : World) (A A' B B' : Option Addr) (k k' l l' : Nat) (ar av bs bv : List Int) (hA : RC w A (ints ar)) (hA' : RC w A' (ints av)) (hB : RC w B (ints bs)) (hB' : RC w B' (ints bv)) (hm : ar.length ≤ 1048576) (hm' : av.length ≤ 1048576) (hn : bs.length ≤ 1048576) (hn' : bv.length ≤ 1048576) : Calls Try.prog 23 #[.agg #[.slice A ar.length k, .slice A' av.length k'], .agg #[.slice B bs.length l, .slice B' bv.length l']] w (NewCurveD (joL ar av bs bv) (joV ar av bs bv) (joC ar av bs bv) w) := by
  have HA := Lib.hid hA
  have HA' := Lib.hid hA'
  have HB := Lib.hid hB
  have HB' := Lib.hid hB'
  clear hA hA' hB hB'
  cases k0 : curveOk ar av
  · skip
    have HC := Lib.hid (jo_bad1 (bs := bs) (bv := bv) k0)
    have H := Lib.hid (jo_no HC.out (by omega))
    go_enter Try.func23, Try.ntmps23
    go_wp2_with (first | (go_at_call_of 47 (Value.agg #[.slice A ar.length k, .slice A' av.length k']); refine (implValidCurve _ _ _ _ _ ar av (HA.out.below (by repeat (first | exact Below.refl _ _ | assumption | apply bl_alloc | apply bl_drewN | apply Below.drew | (refine bl_set ?_ (by first | exact Nat.le_refl _ | (simp; done) | (simp; omega)) _) | (refine bl_trans ?_ (by assumption))))) (HA'.out.below (by repeat (first | exact Below.refl _ _ | assumption | apply bl_alloc | apply bl_drewN | apply Below.drew | (refine bl_set ?_ (by first | exact Nat.le_refl _ | (simp; done) | (simp; omega)) _) | (refine bl_trans ?_ (by assumption))))) hm hm').mono ?_; rintro e w1 ⟨rfl, hb1⟩; have ka : w1.heap[w.heap.size]? = some (.cells #[.slice A ar.length k, .slice A' av.length k'] 32 (0, 0)) := keep_blk (hb := hb1) (h := by first | exact ka | (repeat (first | (refine blk_new ?_; (first | rfl | (simp; done) | (simp; omega))) | refine blk_drewN ?_ | refine blk_old ?_))); obtain ⟨ka0, ka1, kal⟩ := row_two ka; have kb : w1.heap[w.heap.size + 1]? = some (.cells #[.slice B bs.length l, .slice B' bv.length l'] 32 (0, 0)) := keep_blk (hb := hb1) (h := by first | exact kb | (repeat (first | (refine blk_new ?_; (first | rfl | (simp; done) | (simp; omega))) | refine blk_drewN ?_ | refine blk_old ?_))); obtain ⟨kb0, kb1, kbl⟩ := row_two kb; have kr : w1.heap[w.heap.size + 2]? = some (.cells #[.slice none 0 0, .slice none 0 0] 32 (0, 0)) := keep_blk (hb := hb1) (h := by first | exact kr | (repeat (first | (refine blk_new ?_; (first | rfl | (simp; done) | (simp; omega))) | refine blk_drewN ?_ | refine blk_old ?_))); obtain ⟨kr0, kr1, kf0, kf1, krl⟩ := cells_two kr (Below.refl _ _)) | (go_at_call_of 47 (Value.agg #[.slice B bs.length l, .slice B' bv.length l']); refine (implValidCurve _ _ _ _ _ bs bv (HB.out.below (by repeat (first | exact Below.refl _ _ | assumption | apply bl_alloc | apply bl_drewN | apply Below.drew | (refine bl_set ?_ (by first | exact Nat.le_refl _ | (simp; done) | (simp; omega)) _) | (refine bl_trans ?_ (by assumption))))) (HB'.out.below (by repeat (first | exact Below.refl _ _ | assumption | apply bl_alloc | apply bl_drewN | apply Below.drew | (refine bl_set ?_ (by first | exact Nat.le_refl _ | (simp; done) | (simp; omega)) _) | (refine bl_trans ?_ (by assumption))))) hn hn').mono ?_; rintro e w2 ⟨rfl, hb2⟩; have ka : w2.heap[w.heap.size]? = some (.cells #[.slice A ar.length k, .slice A' av.length k'] 32 (0, 0)) := keep_blk (hb := hb2) (h := by first | exact ka | (repeat (first | (refine blk_new ?_; (first | rfl | (simp; done) | (simp; omega))) | refine blk_drewN ?_ | refine blk_old ?_))); obtain ⟨ka0, ka1, kal⟩ := row_two ka; have kb : w2.heap[w.heap.size + 1]? = some (.cells #[.slice B bs.length l, .slice B' bv.length l'] 32 (0, 0)) := keep_blk (hb := hb2) (h := by first | exact kb | (repeat (first | (refine blk_new ?_; (first | rfl | (simp; done) | (simp; omega))) | refine blk_drewN ?_ | refine blk_old ?_))); obtain ⟨kb0, kb1, kbl⟩ := row_two kb; have kr : w2.heap[w.heap.size + 2]? = some (.cells #[.slice none 0 0, .slice none 0 0] 32 (0, 0)) := keep_blk (hb := hb2) (h := by first | exact kr | (repeat (first | (refine blk_new ?_; (first | rfl | (simp; done) | (simp; omega))) | refine blk_drewN ?_ | refine blk_old ?_))); obtain ⟨kr0, kr1, kf0, kf1, krl⟩ := cells_two kr (Below.refl _ _)))
    refine bodyPost_ret (v := .tuple #[.agg #[.slice none 0 0, .slice none 0 0], .int .i64 1]) (by simp [results, Try.results23, go_sem, kr0, kr1]) rfl ?_
    rw [H.out.1, H.out.2, HC.out]
    exact ⟨none, 0, none, 0, rfl, OwnC.nil _ _ _ _, OwnC.nil _ _ _ _, Apart.none _, by repeat (first | exact Below.refl _ _ | assumption | apply bl_alloc | apply bl_drewN | apply Below.drew | (refine bl_set ?_ (by first | exact Nat.le_refl _ | (simp; done) | (simp; omega)) _) | (refine bl_trans ?_ (by assumption)))⟩
  · cases k1 : curveOk bs bv
    · skip
      have HC := Lib.hid (jo_bad2 (ar := ar) (av := av) k1)
      have H := Lib.hid (jo_no HC.out (by omega))
      go_enter Try.func23, Try.ntmps23
      go_wp2_with (first | (go_at_call_of 47 (Value.agg #[.slice A ar.length k, .slice A' av.length k']); refine (implValidCurve _ _ _ _ _ ar av (HA.out.below (by repeat (first | exact Below.refl _ _ | assumption | apply bl_alloc | apply bl_drewN | apply Below.drew | (refine bl_set ?_ (by first | exact Nat.le_refl _ | (simp; done) | (simp; omega)) _) | (refine bl_trans ?_ (by assumption))))) (HA'.out.below (by repeat (first | exact Below.refl _ _ | assumption | apply bl_alloc | apply bl_drewN | apply Below.drew | (refine bl_set ?_ (by first | exact Nat.le_refl _ | (simp; done) | (simp; omega)) _) | (refine bl_trans ?_ (by assumption))))) hm hm').mono ?_; rintro e w1 ⟨rfl, hb1⟩; have ka : w1.heap[w.heap.size]? = some (.cells #[.slice A ar.length k, .slice A' av.length k'] 32 (0, 0)) := keep_blk (hb := hb1) (h := by first | exact ka | (repeat (first | (refine blk_new ?_; (first | rfl | (simp; done) | (simp; omega))) | refine blk_drewN ?_ | refine blk_old ?_))); obtain ⟨ka0, ka1, kal⟩ := row_two ka; have kb : w1.heap[w.heap.size + 1]? = some (.cells #[.slice B bs.length l, .slice B' bv.length l'] 32 (0, 0)) := keep_blk (hb := hb1) (h := by first | exact kb | (repeat (first | (refine blk_new ?_; (first | rfl | (simp; done) | (simp; omega))) | refine blk_drewN ?_ | refine blk_old ?_))); obtain ⟨kb0, kb1, kbl⟩ := row_two kb; have kr : w1.heap[w.heap.size + 2]? = some (.cells #[.slice none 0 0, .slice none 0 0] 32 (0, 0)) := keep_blk (hb := hb1) (h := by first | exact kr | (repeat (first | (refine blk_new ?_; (first | rfl | (simp; done) | (simp; omega))) | refine blk_drewN ?_ | refine blk_old ?_))); obtain ⟨kr0, kr1, kf0, kf1, krl⟩ := cells_two kr (Below.refl _ _)) | (go_at_call_of 47 (Value.agg #[.slice B bs.length l, .slice B' bv.length l']); refine (implValidCurve _ _ _ _ _ bs bv (HB.out.below (by repeat (first | exact Below.refl _ _ | assumption | apply bl_alloc | apply bl_drewN | apply Below.drew | (refine bl_set ?_ (by first | exact Nat.le_refl _ | (simp; done) | (simp; omega)) _) | (refine bl_trans ?_ (by assumption))))) (HB'.out.below (by repeat (first | exact Below.refl _ _ | assumption | apply bl_alloc | apply bl_drewN | apply Below.drew | (refine bl_set ?_ (by first | exact Nat.le_refl _ | (simp; done) | (simp; omega)) _) | (refine bl_trans ?_ (by assumption))))) hn hn').mono ?_; rintro e w2 ⟨rfl, hb2⟩; have ka : w2.heap[w.heap.size]? = some (.cells #[.slice A ar.length k, .slice A' av.length k'] 32 (0, 0)) := keep_blk (hb := hb2) (h := by first | exact ka | (repeat (first | (refine blk_new ?_; (first | rfl | (simp; done) | (simp; omega))) | refine blk_drewN ?_ | refine blk_old ?_))); obtain ⟨ka0, ka1, kal⟩ := row_two ka; have kb : w2.heap[w.heap.size + 1]? = some (.cells #[.slice B bs.length l, .slice B' bv.length l'] 32 (0, 0)) := keep_blk (hb := hb2) (h := by first | exact kb | (repeat (first | (refine blk_new ?_; (first | rfl | (simp; done) | (simp; omega))) | refine blk_drewN ?_ | refine blk_old ?_))); obtain ⟨kb0, kb1, kbl⟩ := row_two kb; have kr : w2.heap[w.heap.size + 2]? = some (.cells #[.slice none 0 0, .slice none 0 0] 32 (0, 0)) := keep_blk (hb := hb2) (h := by first | exact kr | (repeat (first | (refine blk_new ?_; (first | rfl | (simp; done) | (simp; omega))) | refine blk_drewN ?_ | refine blk_old ?_))); obtain ⟨kr0, kr1, kf0, kf1, krl⟩ := cells_two kr (Below.refl _ _)))
      refine bodyPost_ret (v := .tuple #[.agg #[.slice none 0 0, .slice none 0 0], .int .i64 1]) (by simp [results, Try.results23, go_sem, kr0, kr1]) rfl ?_
      rw [H.out.1, H.out.2, HC.out]
      exact ⟨none, 0, none, 0, rfl, OwnC.nil _ _ _ _, OwnC.nil _ _ _ _, Apart.none _, by repeat (first | exact Below.refl _ _ | assumption | apply bl_alloc | apply bl_drewN | apply Below.drew | (refine bl_set ?_ (by first | exact Nat.le_refl _ | (simp; done) | (simp; omega)) _) | (refine bl_trans ?_ (by assumption)))⟩
    · skip
      have F := jo_facts k0 k1
      obtain ⟨b1, o1, rfl, hbl1, hce1⟩ := HA.out (by rw [ints_len]; omega)
      obtain ⟨b2, o2, rfl, hbl2, hce2⟩ := HB.out (by rw [ints_len]; omega)
      have f1 := hce1 0 (by rw [ints_len]; omega)
      have f2 := hce2 0 (by rw [ints_len]; omega)
      rw [ints_get ar 0 (by omega), Nat.add_zero] at f1
      rw [ints_get bs 0 (by omega), Nat.add_zero] at f2
      clear hce1 hce2
      obtain ⟨i0, hi, hz0, hz1, hz2⟩ := info_parts infoInt
      go_enter Try.func23, Try.ntmps23
      go_upto_region 3 with (first | (go_at_call_of 47 (Value.agg #[.slice (some ⟨b1, o1, none⟩) ar.length k, .slice A' av.length k']); refine (implValidCurve _ _ _ _ _ ar av (HA.out.below (by repeat (first | exact Below.refl _ _ | assumption | apply bl_alloc | apply bl_drewN | apply Below.drew | (refine bl_set ?_ (by first | exact Nat.le_refl _ | (simp; done) | (simp; omega)) _) | (refine bl_trans ?_ (by assumption))))) (HA'.out.below (by repeat (first | exact Below.refl _ _ | assumption | apply bl_alloc | apply bl_drewN | apply Below.drew | (refine bl_set ?_ (by first | exact Nat.le_refl _ | (simp; done) | (simp; omega)) _) | (refine bl_trans ?_ (by assumption))))) hm hm').mono ?_; rintro e w1 ⟨rfl, hb1⟩; have ka : w1.heap[w.heap.size]? = some (.cells #[.slice (some ⟨b1, o1, none⟩) ar.length k, .slice A' av.length k'] 32 (0, 0)) := keep_blk (hb := hb1) (h := by first | exact ka | (repeat (first | (refine blk_new ?_; (first | rfl | (simp; done) | (simp; omega))) | refine blk_drewN ?_ | refine blk_old ?_))); obtain ⟨ka0, ka1, kal⟩ := row_two ka; have kb : w1.heap[w.heap.size + 1]? = some (.cells #[.slice (some ⟨b2, o2, none⟩) bs.length l, .slice B' bv.length l'] 32 (0, 0)) := keep_blk (hb := hb1) (h := by first | exact kb | (repeat (first | (refine blk_new ?_; (first | rfl | (simp; done) | (simp; omega))) | refine blk_drewN ?_ | refine blk_old ?_))); obtain ⟨kb0, kb1, kbl⟩ := row_two kb; have kr : w1.heap[w.heap.size + 2]? = some (.cells #[.slice none 0 0, .slice none 0 0] 32 (0, 0)) := keep_blk (hb := hb1) (h := by first | exact kr | (repeat (first | (refine blk_new ?_; (first | rfl | (simp; done) | (simp; omega))) | refine blk_drewN ?_ | refine blk_old ?_))); obtain ⟨kr0, kr1, kf0, kf1, krl⟩ := cells_two kr (Below.refl _ _)) | (go_at_call_of 47 (Value.agg #[.slice (some ⟨b2, o2, none⟩) bs.length l, .slice B' bv.length l']); refine (implValidCurve _ _ _ _ _ bs bv (HB.out.below (by repeat (first | exact Below.refl _ _ | assumption | apply bl_alloc | apply bl_drewN | apply Below.drew | (refine bl_set ?_ (by first | exact Nat.le_refl _ | (simp; done) | (simp; omega)) _) | (refine bl_trans ?_ (by assumption))))) (HB'.out.below (by repeat (first | exact Below.refl _ _ | assumption | apply bl_alloc | apply bl_drewN | apply Below.drew | (refine bl_set ?_ (by first | exact Nat.le_refl _ | (simp; done) | (simp; omega)) _) | (refine bl_trans ?_ (by assumption))))) hn hn').mono ?_; rintro e w2 ⟨rfl, hb2⟩; have ka : w2.heap[w.heap.size]? = some (.cells #[.slice (some ⟨b1, o1, none⟩) ar.length k, .slice A' av.length k'] 32 (0, 0)) := keep_blk (hb := hb2) (h := by first | exact ka | (repeat (first | (refine blk_new ?_; (first | rfl | (simp; done) | (simp; omega))) | refine blk_drewN ?_ | refine blk_old ?_))); obtain ⟨ka0, ka1, kal⟩ := row_two ka; have kb : w2.heap[w.heap.size + 1]? = some (.cells #[.slice (some ⟨b2, o2, none⟩) bs.length l, .slice B' bv.length l'] 32 (0, 0)) := keep_blk (hb := hb2) (h := by first | exact kb | (repeat (first | (refine blk_new ?_; (first | rfl | (simp; done) | (simp; omega))) | refine blk_drewN ?_ | refine blk_old ?_))); obtain ⟨kb0, kb1, kbl⟩ := row_two kb; have kr : w2.heap[w.heap.size + 2]? = some (.cells #[.slice none 0 0, .slice none 0 0] 32 (0, 0)) := keep_blk (hb := hb2) (h := by first | exact kr | (repeat (first | (refine blk_new ?_; (first | rfl | (simp; done) | (simp; omega))) | refine blk_drewN ?_ | refine blk_old ?_))); obtain ⟨kr0, kr1, kf0, kf1, krl⟩ := cells_two kr (Below.refl _ _)))
      have S2 := Lib.hid (show Below w.heap.size w w2 by repeat (first | exact Below.refl _ _ | assumption | apply bl_alloc | apply bl_drewN | apply Below.drew | (refine bl_set ?_ (by first | exact Nat.le_refl _ | (simp; done) | (simp; omega)) _) | (refine bl_trans ?_ (by assumption))))
      have g1 := (S2.out.cell (p := ⟨b1, o1, none⟩) hbl1).trans f1
      have g2 := (S2.out.cell (p := ⟨b2, o2, none⟩) hbl2).trans f2
      clear f1 f2
      go_cut [6, 7] (fun s6 s7 wx => s6 = .int .i64 (joLo ar bs) ∧ s7 = .int .i64 (joHi ar bs) ∧ wx.heap[w.heap.size]? = some (.cells #[.slice (some ⟨b1, o1, none⟩) ar.length k, .slice A' av.length k'] 32 (0, 0)) ∧ wx.heap[w.heap.size + 1]? = some (.cells #[.slice (some ⟨b2, o2, none⟩) bs.length l, .slice B' bv.length l'] 32 (0, 0)) ∧ wx.heap[w.heap.size + 2]? = some (.cells #[.slice none 0 0, .slice none 0 0] 32 (0, 0)) ∧ Below w.heap.size w wx)
      case first =>
        have HLO := Lib.hid (show joLo ar bs = mx (gt ar 0) (gt bs 0) from rfl)
        have HHI := Lib.hid (show joHi ar bs = mn (gt ar (ar.length - 1)) (gt bs (bs.length - 1)) from rfl)
        by_cases q1 : gt ar 0 < gt bs 0
        · by_cases q2 : gt bs (bs.length - 1) < gt ar (ar.length - 1)
          · have r1 := HLO.out.trans (mx_le (by omega))
            have r2 := HHI.out.trans (mn_ge (by omega))
            have G1 := Lib.hid r1
            have G2 := Lib.hid r2
            clear r1 r2
            go_quiet ((first | (go_at_call_of 51 (Value.slice (some ⟨b1, o1, none⟩) ar.length k); first | with_reducible exact quiet_eq (last_any _ _ _ ar ((HA.out.below S2.out).drewN _) (by omega) hm) | with_reducible exact quiet_add_eq (last_any _ _ _ ar ((HA.out.below S2.out).drewN _) (by omega) hm)) | (go_at_call_of 51 (Value.slice (some ⟨b2, o2, none⟩) bs.length l); first | with_reducible exact quiet_eq (last_any _ _ _ bs ((HB.out.below S2.out).drewN _) (by omega) hn) | with_reducible exact quiet_add_eq (last_any _ _ _ bs ((HB.out.below S2.out).drewN _) (by omega) hn))))
            go_wp2_with fail
            go_meet
            exact ⟨ret_v G1.out.symm, ret_v G2.out.symm, blk_drewN ka, blk_drewN kb, blk_drewN kr, bl_drewN S2.out _⟩
          · have r1 := HLO.out.trans (mx_le (by omega))
            have r2 : joHi ar bs = gt ar (ar.length - 1) := by rw [HHI.out]; have := mn_bd (gt ar (ar.length - 1)) (gt bs (bs.length - 1)); omega
            have G1 := Lib.hid r1
            have G2 := Lib.hid r2
            clear r1 r2
            go_quiet ((first | (go_at_call_of 51 (Value.slice (some ⟨b1, o1, none⟩) ar.length k); first | with_reducible exact quiet_eq (last_any _ _ _ ar ((HA.out.below S2.out).drewN _) (by omega) hm) | with_reducible exact quiet_add_eq (last_any _ _ _ ar ((HA.out.below S2.out).drewN _) (by omega) hm)) | (go_at_call_of 51 (Value.slice (some ⟨b2, o2, none⟩) bs.length l); first | with_reducible exact quiet_eq (last_any _ _ _ bs ((HB.out.below S2.out).drewN _) (by omega) hn) | with_reducible exact quiet_add_eq (last_any _ _ _ bs ((HB.out.below S2.out).drewN _) (by omega) hn))))
            go_wp2_with fail
            go_meet
            exact ⟨ret_v G1.out.symm, ret_v G2.out.symm, blk_drewN ka, blk_drewN kb, blk_drewN kr, bl_drewN S2.out _⟩
        · by_cases q2 : gt bs (bs.length - 1) < gt ar (ar.length - 1)
          · have r1 : joLo ar bs = gt ar 0 := by rw [HLO.out]; have := mx_bd (gt ar 0) (gt bs 0); omega
            have r2 := HHI.out.trans (mn_ge (by omega))
            have G1 := Lib.hid r1
            have G2 := Lib.hid r2
            clear r1 r2
            go_quiet ((first | (go_at_call_of 51 (Value.slice (some ⟨b1, o1, none⟩) ar.length k); first | with_reducible exact quiet_eq (last_any _ _ _ ar ((HA.out.below S2.out).drewN _) (by omega) hm) | with_reducible exact quiet_add_eq (last_any _ _ _ ar ((HA.out.below S2.out).drewN _) (by omega) hm)) | (go_at_call_of 51 (Value.slice (some ⟨b2, o2, none⟩) bs.length l); first | with_reducible exact quiet_eq (last_any _ _ _ bs ((HB.out.below S2.out).drewN _) (by omega) hn) | with_reducible exact quiet_add_eq (last_any _ _ _ bs ((HB.out.below S2.out).drewN _) (by omega) hn))))
            go_wp2_with fail
            go_meet
            exact ⟨ret_v G1.out.symm, ret_v G2.out.symm, blk_drewN ka, blk_drewN kb, blk_drewN kr, bl_drewN S2.out _⟩
          · have r1 : joLo ar bs = gt ar 0 := by rw [HLO.out]; have := mx_bd (gt ar 0) (gt bs 0); omega
            have r2 : joHi ar bs = gt ar (ar.length - 1) := by rw [HHI.out]; have := mn_bd (gt ar (ar.length - 1)) (gt bs (bs.length - 1)); omega
            have G1 := Lib.hid r1
            have G2 := Lib.hid r2
            clear r1 r2
            go_quiet ((first | (go_at_call_of 51 (Value.slice (some ⟨b1, o1, none⟩) ar.length k); first | with_reducible exact quiet_eq (last_any _ _ _ ar ((HA.out.below S2.out).drewN _) (by omega) hm) | with_reducible exact quiet_add_eq (last_any _ _ _ ar ((HA.out.below S2.out).drewN _) (by omega) hm)) | (go_at_call_of 51 (Value.slice (some ⟨b2, o2, none⟩) bs.length l); first | with_reducible exact quiet_eq (last_any _ _ _ bs ((HB.out.below S2.out).drewN _) (by omega) hn) | with_reducible exact quiet_add_eq (last_any _ _ _ bs ((HB.out.below S2.out).drewN _) (by omega) hn))))
            go_wp2_with fail
            go_meet
            exact ⟨ret_v G1.out.symm, ret_v G2.out.symm, blk_drewN ka, blk_drewN kb, blk_drewN kr, bl_drewN S2.out _⟩
      case rest =>
        clear ka kb kr ka0 ka1 kal kb0 kb1 kbl kr0 kr1 kf0 kf1 krl g1 g2 S2
        obtain ⟨rfl, rfl, ka, kb, kr, s2⟩ := hcut
        obtain ⟨wk, rfl⟩ : ∃ x : World, x = wc := ⟨_, rfl⟩
        obtain ⟨ka0, ka1, kal⟩ := row_two ka
        obtain ⟨kb0, kb1, kbl⟩ := row_two kb
        obtain ⟨kr0, kr1, kf0, kf1, krl⟩ := cells_two kr (Below.refl _ _)
        have K0 := Lib.hid k0
        have K1 := Lib.hid k1
        clear k0 k1
        by_cases k2 : joLo ar bs < joHi ar bs
        · skip
          have zk := krl
          go_wp2
          go_loopg [9] (joHi ar bs - joLo ar bs + 1).toNat (fun m y wr => ∃ j n, j ≤ (joHi ar bs - joLo ar bs + 1).toNat ∧ m = (joHi ar bs - joLo ar bs + 1).toNat - j ∧ y = .int .i64 (joLo ar bs + (j : Int)) ∧ Hid ((joT ar av bs bv j).length = n) ∧ (∃ A1 c1 A2 c2, wr.heap[wk.heap.size]? = some (.cells #[.slice A1 n c1, .slice A2 n c2] 32 (0, 0)) ∧ Own2 wr (wk.heap.size + 1) wk.heap.size 2 (.slice A1 n c1) (joT ar av bs bv j) (.slice A2 n c2) (joU ar av bs bv j)) ∧ wr.heap[w.heap.size]? = some (.cells #[.slice (some ⟨b1, o1, none⟩) ar.length k, .slice A' av.length k'] 32 (0, 0)) ∧ wr.heap[w.heap.size + 1]? = some (.cells #[.slice (some ⟨b2, o2, none⟩) bs.length l, .slice B' bv.length l'] 32 (0, 0)) ∧ wr.heap[w.heap.size + 2]? = some (.cells #[.slice none 0 0, .slice none 0 0] 32 (0, 0)) ∧ Below w.heap.size w wr)
          case atStart => exact ⟨0, 0, Nat.zero_le _, rfl, by simp, Lib.hid rfl, ⟨none, 0, none, 0, by repeat (first | (refine blk_new ?_; (first | rfl | (simp; done) | (simp; omega))) | refine blk_drewN ?_ | refine blk_old ?_), ⟨World.ownsRow_nil _ _ _ _, World.ownsRow_nil _ _ _ _, (fun g h => by cases h), (fun g h => by cases h), (fun g h => by cases h), by simp⟩⟩, by repeat (first | (refine blk_new ?_; (first | rfl | (simp; done) | (simp; omega))) | refine blk_drewN ?_ | refine blk_old ?_); exact ka, by repeat (first | (refine blk_new ?_; (first | rfl | (simp; done) | (simp; omega))) | refine blk_drewN ?_ | refine blk_old ?_); exact kb, by repeat (first | (refine blk_new ?_; (first | rfl | (simp; done) | (simp; omega))) | refine blk_drewN ?_ | refine blk_old ?_); exact kr, by repeat (first | exact Below.refl _ _ | assumption | apply bl_alloc | apply bl_drewN | apply Below.drew | (refine bl_set ?_ (by first | exact Nat.le_refl _ | (simp; done) | (simp; omega)) _) | (refine bl_trans ?_ (by assumption)))⟩
          case round =>
            clear ka kb kr ka0 ka1 kal kb0 kb1 kbl kr0 kr1 kf0 kf1 krl
            obtain ⟨j, n, hj, hgj, rfl, HN1, ⟨A1, c1, A2, c2, kc, hO⟩, ka, kb, kr, hb⟩ := hrel
            obtain ⟨x0, x1, xf0, xf1, xl⟩ := cells_two kc (Below.refl _ _)
            obtain ⟨ca0, ca1, cal⟩ := row_two ka
            obtain ⟨cb0, cb1, cbl⟩ := row_two kb
            obtain ⟨kr0, kr1, kf0, kf1, krl⟩ := cells_two kr (Below.refl _ _)
            have HGK := Lib.hid hgj
            have HN2 := Lib.hid ((joU_len ar av bs bv j).trans HN1.out)
            have hnj : n ≤ j := by rw [← HN1.out]; exact joT_len _ _ _ _ _
            have zb := hb.size
            clear hgj
            by_cases hlt : j < (joHi ar bs - joLo ar bs + 1).toNat
            · obtain ⟨y, hy⟩ : ∃ y, y = joLo ar bs + (j : Int) := ⟨_, rfl⟩
              have y1 : joLo ar bs ≤ y := by omega
              have y2 : y ≤ joHi ar bs := by omega
              have HY := Lib.hid hy
              rw [← hy]
              clear hy
              go_upto_region 10 with fail
              go_cut [65] (fun s65 wx => s65 = .bool (joQ ar bs (joLo ar bs) (joHi ar bs) y) ∧ wr = wx)
              case first =>
                by_cases e1 : y = joLo ar bs
                · have G := Lib.hid (joQ_lo (ar := ar) (bs := bs) (hi := joHi ar bs) e1)
                  have g1 : (y == joLo ar bs) = true := by simpa using e1
                  clear e1
                  go_wp2_with fail
                  go_meet
                  exact ⟨by rw [G.out], rfl⟩
                · have g1 : (y == joLo ar bs) = false := by simpa using e1
                  by_cases e2 : y = joHi ar bs
                  · have G := Lib.hid (joQ_hi (ar := ar) (bs := bs) (lo := joLo ar bs) e2)
                    have g2 : (y == joHi ar bs) = true := by simpa using e2
                    clear e1 e2
                    go_wp2_with fail
                    go_meet
                    exact ⟨by rw [G.out], rfl⟩
                  · have g2 : (y == joHi ar bs) = false := by simpa using e2
                    cases e3 : hasB ar y
                    · cases e4 : hasB bs y
                      · have G := Lib.hid (joQ_no e1 e2 e3 e4)
                        have E3 := Lib.hid e3
                        have E4 := Lib.hid e4
                        clear e1 e2 e3 e4
                        go_wp2_with (first | (go_at_call_of 52 (Value.slice (some ⟨b1, o1, none⟩) ar.length k); refine (has_lit E3.out _ _ _ (HA.out.below (by repeat (first | exact Below.refl _ _ | assumption | apply bl_alloc | apply bl_drewN | apply Below.drew | (refine bl_set ?_ (by first | exact Nat.le_refl _ | (simp; done) | (simp; omega)) _) | (refine bl_trans ?_ (by assumption))))) hm).mono ?_; rintro e w' ⟨rfl, rfl⟩) | (go_at_call_of 52 (Value.slice (some ⟨b2, o2, none⟩) bs.length l); refine (has_lit E4.out _ _ _ (HB.out.below (by repeat (first | exact Below.refl _ _ | assumption | apply bl_alloc | apply bl_drewN | apply Below.drew | (refine bl_set ?_ (by first | exact Nat.le_refl _ | (simp; done) | (simp; omega)) _) | (refine bl_trans ?_ (by assumption))))) hn).mono ?_; rintro e w' ⟨rfl, rfl⟩))
                        go_meet
                        exact ⟨by rw [G.out], rfl⟩
                      · have G := Lib.hid (joQ_b (ar := ar) (lo := joLo ar bs) (hi := joHi ar bs) e4)
                        have E3 := Lib.hid e3
                        have E4 := Lib.hid e4
                        clear e1 e2 e3 e4
                        go_wp2_with (first | (go_at_call_of 52 (Value.slice (some ⟨b1, o1, none⟩) ar.length k); refine (has_lit E3.out _ _ _ (HA.out.below (by repeat (first | exact Below.refl _ _ | assumption | apply bl_alloc | apply bl_drewN | apply Below.drew | (refine bl_set ?_ (by first | exact Nat.le_refl _ | (simp; done) | (simp; omega)) _) | (refine bl_trans ?_ (by assumption))))) hm).mono ?_; rintro e w' ⟨rfl, rfl⟩) | (go_at_call_of 52 (Value.slice (some ⟨b2, o2, none⟩) bs.length l); refine (has_lit E4.out _ _ _ (HB.out.below (by repeat (first | exact Below.refl _ _ | assumption | apply bl_alloc | apply bl_drewN | apply Below.drew | (refine bl_set ?_ (by first | exact Nat.le_refl _ | (simp; done) | (simp; omega)) _) | (refine bl_trans ?_ (by assumption))))) hn).mono ?_; rintro e w' ⟨rfl, rfl⟩))
                        go_meet
                        exact ⟨by rw [G.out], rfl⟩
                    · have G := Lib.hid (joQ_a (bs := bs) (lo := joLo ar bs) (hi := joHi ar bs) e3)
                      have E3 := Lib.hid e3
                      clear e1 e2 e3
                      go_wp2_with (first | (go_at_call_of 52 (Value.slice (some ⟨b1, o1, none⟩) ar.length k); refine (has_lit E3.out _ _ _ (HA.out.below (by repeat (first | exact Below.refl _ _ | assumption | apply bl_alloc | apply bl_drewN | apply Below.drew | (refine bl_set ?_ (by first | exact Nat.le_refl _ | (simp; done) | (simp; omega)) _) | (refine bl_trans ?_ (by assumption))))) hm).mono ?_; rintro e w' ⟨rfl, rfl⟩) | (go_at_call_of 52 (Value.slice (some ⟨b2, o2, none⟩) bs.length l); refine (has_lit E4.out _ _ _ (HB.out.below (by repeat (first | exact Below.refl _ _ | assumption | apply bl_alloc | apply bl_drewN | apply Below.drew | (refine bl_set ?_ (by first | exact Nat.le_refl _ | (simp; done) | (simp; omega)) _) | (refine bl_trans ?_ (by assumption))))) hn).mono ?_; rintro e w' ⟨rfl, rfl⟩))
                      go_meet
                      exact ⟨by rw [G.out], rfl⟩
              case rest =>
                obtain ⟨rfl, rfl⟩ := hcut
                cases kq : joQ ar bs (joLo ar bs) (joHi ar bs) y
                · have HS := Lib.hid (joT_no (av := av) (bv := bv) (j := j) (by rw [← HY.out]; exact kq))
                  have HS2 := Lib.hid (joU_no (av := av) (bv := bv) (j := j) (by rw [← HY.out]; exact kq))
                  clear kq
                  go_wp2
                  go_roundg ((joHi ar bs - joLo ar bs + 1).toNat - (j + 1))
                  case measure => rw [HGK.out]; omega
                  case rel => exact ⟨j + 1, n, by omega, rfl, by rw [HY.out]; go_num, Lib.hid (by rw [HS.out]; exact HN1.out), ⟨A1, c1, A2, c2, kc, by rw [HS.out, HS2.out]; exact hO⟩, ka, kb, kr, hb⟩
                · have HS := Lib.hid (show joT ar av bs bv (j + 1) = joT ar av bs bv j ++ [y] by rw [HY.out]; exact joT_yes (by rw [← HY.out]; exact kq))
                  have HS2 := Lib.hid (show joU ar av bs bv (j + 1) = joU ar av bs bv j ++ [(volAt ar av y + volAt bs bv y - volAt ar av (joLo ar bs) - volAt bs bv (joLo ar bs))] by rw [show (volAt ar av y + volAt bs bv y - volAt ar av (joLo ar bs) - volAt bs bv (joLo ar bs)) = joF ar av bs bv y by unfold joF joB; omega, HY.out]; exact joU_yes (by rw [← HY.out]; exact kq))
                  clear kq
                  go_wp2_with (at_builtin; refine wpList_append_lies _ rfl _ _ 22 rfl (wk.heap.size + 1) 2 i0 (.int .i64 0) 1 8 Try.underlying22 hi hz0 hz1 hz2 rfl (by decide) _ _ _ rfl ((hO.an HN1.out).alloc _) ⟨wr.heap.size, 0, none⟩ 1 1 [.int .i64 y] rfl rfl (by first | exact app_news (heap_alloc_new _ _) | exact app_news (heap_alloc_new wr _)) (app_one _) (by decide) (by have := hnj; unfold maxLen; omega) (by have := hnj; omega) (by simp; omega) (wr.heap.size + 1) (by simp) ?_; intro g cap w3 hown3 hgrow3 hat3 hlt3; have kc3 := (hO.alloc (.cells #[.int .i64 y] 2)).keepL hgrow3 (blk_old kc) (.inl rfl); obtain ⟨v0, v1, vf0, vf1, vl⟩ := cells_two kc3 (Below.refl _ _); have O3 := Lib.hid ((hO.alloc (.cells #[.int .i64 y] 2)).leftN HN1.out hown3 hgrow3 hat3 (by simp) HS.out); have R2 := Lib.hid ((hO.alloc (.cells #[.int .i64 y] 2)).belowL (bl_alloc hb _) (by omega) hgrow3); have R3 := Lib.hid ((hO.alloc (.cells #[.int .i64 y] 2)).keepL hgrow3 (blk_old ka) (.inr (by omega))); have R4 := Lib.hid ((hO.alloc (.cells #[.int .i64 y] 2)).keepL hgrow3 (blk_old kb) (.inr (by omega))); have R5 := Lib.hid ((hO.alloc (.cells #[.int .i64 y] 2)).keepL hgrow3 (blk_old kr) (.inr (by omega))); clear hown3 hgrow3 hat3 hlt3)
                  obtain ⟨W4, hW4⟩ : ∃ W4, W4 = w3.setCell ⟨wk.heap.size, 0, none⟩ (.slice (some ⟨g, 0, none⟩) (n + 1) cap) := ⟨_, rfl⟩
                  have K4 := Lib.hid (show W4.heap[wk.heap.size]? = some (.cells #[.slice (some ⟨g, 0, none⟩) (n + 1) cap, .slice A2 n c2] 32 (0, 0)) from by rw [hW4]; exact heap_setCell_same _ _ 0 _ _ _ kc3)
                  have O4 := Lib.hid (show Own2 W4 (wk.heap.size + 1) wk.heap.size 2 (.slice (some ⟨g, 0, none⟩) (n + 1) cap) (joT ar av bs bv (j + 1)) (.slice A2 n c2) (joU ar av bs bv j) from by rw [hW4]; exact O3.out.set 0 _)
                  have XA4 := Lib.hid (show W4.heap[w.heap.size]? = some (.cells #[.slice (some ⟨b1, o1, none⟩) ar.length k, .slice A' av.length k'] 32 (0, 0)) from by rw [hW4]; exact kb_set R3.out (by first | (simp; done) | (simp; omega)))
                  have XB4 := Lib.hid (show W4.heap[w.heap.size + 1]? = some (.cells #[.slice (some ⟨b2, o2, none⟩) bs.length l, .slice B' bv.length l'] 32 (0, 0)) from by rw [hW4]; exact kb_set R4.out (by first | (simp; done) | (simp; omega)))
                  have XR4 := Lib.hid (show W4.heap[w.heap.size + 2]? = some (.cells #[.slice none 0 0, .slice none 0 0] 32 (0, 0)) from by rw [hW4]; exact kb_set R5.out (by first | (simp; done) | (simp; omega)))
                  have B4 := Lib.hid (show Below w.heap.size w W4 from by rw [hW4]; exact bl_set R2.out (by first | (simp; done) | (simp; omega)) _)
                  rw [← hW4]
                  clear hW4 kc3 v0 v1 vf0 vf1 vl O3 R2 R3 R4 R5 hO hb kc ka kb kr x0 x1 xf0 xf1 xl ca0 ca1 cal cb0 cb1 cbl kr0 kr1 kf0 kf1 krl
                  obtain ⟨x0, x1, xf0, xf1, xl⟩ := cells_two K4.out (Below.refl _ _)
                  obtain ⟨ca0, ca1, cal⟩ := row_two XA4.out
                  obtain ⟨cb0, cb1, cbl⟩ := row_two XB4.out
                  have b4 := B4.out
                  have z4 := b4.size
                  have p1 := volAt_bd K0.out (y := y) (by omega) (by omega)
                  have p2 := volAt_bd K1.out (y := y) (by omega) (by omega)
                  have p3 := volAt_bd K0.out (y := joLo ar bs) (by omega) (by omega)
                  have p4 := volAt_bd K1.out (y := joLo ar bs) (by omega) (by omega)
                  have W1 : IntKind.i64.wrap (volAt ar av y + volAt bs bv y) = volAt ar av y + volAt bs bv y := IntWalk.i64_in _ (by omega)
                  have W2 : IntKind.i64.wrap (volAt ar av y + volAt bs bv y - volAt ar av (joLo ar bs)) = volAt ar av y + volAt bs bv y - volAt ar av (joLo ar bs) := IntWalk.i64_in _ (by omega)
                  have W3 : IntKind.i64.wrap (volAt ar av y + volAt bs bv y - volAt ar av (joLo ar bs) - volAt bs bv (joLo ar bs)) = (volAt ar av y + volAt bs bv y - volAt ar av (joLo ar bs) - volAt bs bv (joLo ar bs)) := IntWalk.i64_in _ (by omega)
                  clear p1 p2 p3 p4
                  go_wp2
                  refine region_cutH (S := fun w' => w'.cell? ⟨wk.heap.size, 1, none⟩ = some (.slice A2 n c2) ∧ w'.cell? ⟨w.heap.size, 0, none⟩ = some (.slice (some ⟨b1, o1, none⟩) ar.length k) ∧ w'.cell? ⟨w.heap.size, 1, none⟩ = some (.slice A' av.length k') ∧ w'.cell? ⟨w.heap.size + 1, 0, none⟩ = some (.slice (some ⟨b2, o2, none⟩) bs.length l) ∧ w'.cell? ⟨w.heap.size + 1, 1, none⟩ = some (.slice B' bv.length l')) 19 (by kernel_rfl) (by kernel_rfl) ?hS1 (fun hHeld => ?hR1)
                  case hS1 => (((try dsimp only); refine ⟨?_, ?_, ?_, ?_, ?_⟩ <;> (repeat (first | with_reducible assumption | with_reducible refine kc_drew ?_ | with_reducible refine kc_drewN ?_ | with_reducible refine kc_alloc ?_ | with_reducible refine kc_set ?_ (by first | omega | (simp; done) | (simp; omega))))))
                  simp only [List.take_succ_cons, List.take_zero, List.drop_succ_cons, List.drop_zero]
                  refine wpAnyH_take (i := 0) (v := ?hv2) rfl (by kernel_rfl) (by kernel_rfl) (by kernel_rfl) (fun _ _ _ h => h) (Or.inl ⟨by rfl, ?hy2⟩) (by assumption) ?hR2
                  case hy2 => (intro wq hSw; (try dsimp only at hSw); go_simp; (try with_reducible rfl))
                  simp only [Act.put, List.setIfInBounds_toArray, List.set_cons_zero, List.set_cons_succ]
                  refine wpAnyH_take (i := 1) (v := ?hv3) rfl (by kernel_rfl) (by kernel_rfl) (by kernel_rfl) (fun _ _ _ h => h) (Or.inl ⟨by rfl, ?hy3⟩) (by assumption) ?hR3
                  case hy3 => (intro wq hSw; (try dsimp only at hSw); go_simp; (try with_reducible rfl))
                  simp only [Act.put, List.setIfInBounds_toArray, List.set_cons_zero, List.set_cons_succ]
                  refine wpAnyH_take (i := 2) (v := ?hv4) rfl (by kernel_rfl) (by kernel_rfl) (by kernel_rfl) (fun _ _ _ h => h) (Or.inl ⟨by rfl, ?hy4⟩) (by assumption) ?hR4
                  case hy4 => (intro wq hSw; (try dsimp only at hSw); go_simp; (try with_reducible rfl))
                  simp only [Act.put, List.setIfInBounds_toArray, List.set_cons_zero, List.set_cons_succ]
                  refine wpAnyH_take (i := 3) (v := ?hv5) rfl (by kernel_rfl) (by kernel_rfl) (by kernel_rfl) (fun _ _ _ h => h) (Or.inl ⟨by rfl, ?hy5⟩) (by assumption) ?hR5
                  case hy5 => (intro wq hSw; (try dsimp only at hSw); go_simp; (try with_reducible rfl))
                  simp only [Act.put, List.setIfInBounds_toArray, List.set_cons_zero, List.set_cons_succ]
                  refine wpAnyH_take (i := 5) (v := ?hv6) rfl (by kernel_rfl) (by kernel_rfl) (by kernel_rfl) (fun _ _ _ h => h) (Or.inl ⟨by rfl, ?hy6⟩) (by assumption) ?hR6
                  case hy6 => (intro wq hSw; (try dsimp only at hSw); go_simp; (try with_reducible rfl))
                  simp only [Act.put, List.setIfInBounds_toArray, List.set_cons_zero, List.set_cons_succ]
                  refine wpAnyH_take (i := 6) (v := ?hv7) rfl (by kernel_rfl) (by kernel_rfl) (by kernel_rfl) (fun _ _ _ h => h) (Or.inl ⟨by rfl, ?hy7⟩) (by assumption) ?hR7
                  case hy7 => (intro wq hSw; (try dsimp only at hSw); go_simp; (try with_reducible rfl))
                  simp only [Act.put, List.setIfInBounds_toArray, List.set_cons_zero, List.set_cons_succ]
                  refine wpAnyH_take (i := 9) (v := ?hv8) rfl (by kernel_rfl) (by kernel_rfl) (by kernel_rfl) (fun _ _ _ h => h) (Or.inl ⟨by rfl, ?hy8⟩) (by assumption) ?hR8
                  case hy8 => (intro wq hSw; (try dsimp only at hSw); go_simp; (try with_reducible rfl))
                  simp only [Act.put, List.setIfInBounds_toArray, List.set_cons_zero, List.set_cons_succ]
                  refine wpAnyH_take (i := 10) (v := ?hv9) rfl (by kernel_rfl) (by kernel_rfl) (by kernel_rfl) (fun _ _ _ h => h) (Or.inl ⟨by rfl, ?hy9⟩) (by assumption) ?hR9
                  case hy9 => (intro wq hSw; (try dsimp only at hSw); go_simp; (try with_reducible rfl))
                  simp only [Act.put, List.setIfInBounds_toArray, List.set_cons_zero, List.set_cons_succ]
                  refine wpAnyH_take (i := 13) (v := ?hv10) rfl (by kernel_rfl) (by kernel_rfl) (by kernel_rfl) (fun _ _ _ h => h) (Or.inl ⟨by rfl, ?hy10⟩) (by assumption) ?hR10
                  case hy10 => (intro wq hSw; (try dsimp only at hSw); go_simp; (try with_reducible rfl))
                  simp only [Act.put, List.setIfInBounds_toArray, List.set_cons_zero, List.set_cons_succ]
                  refine wpAnyH_take (i := 14) (v := ?hv11) rfl (by kernel_rfl) (by kernel_rfl) (by kernel_rfl) (fun _ _ _ h => h) (Or.inl ⟨by rfl, ?hy11⟩) (by assumption) ?hR11
                  case hy11 => (intro wq hSw; (try dsimp only at hSw); go_simp; (try with_reducible rfl))
                  simp only [Act.put, List.setIfInBounds_toArray, List.set_cons_zero, List.set_cons_succ]
                  refine wpAnyH_ready (rs := [4]) (by kernel_rfl) (by simp) (AllReadyH.cons rfl (fun K hK => ?hR12) AllReadyH.nil)
                  go_simp
                  (go_at_call 53; refine (implVolume _ _ A' k k' ar av y (HA.out.below (by repeat (first | exact Below.refl _ _ | assumption | apply bl_alloc | apply bl_drewN | apply Below.drew | (refine bl_set ?_ (by first | exact Nat.le_refl _ | (simp; done) | (simp; omega)) _) | (refine bl_trans ?_ (by assumption))))) (HA'.out.below (by repeat (first | exact Below.refl _ _ | assumption | apply bl_alloc | apply bl_drewN | apply Below.drew | (refine bl_set ?_ (by first | exact Nat.le_refl _ | (simp; done) | (simp; omega)) _) | (refine bl_trans ?_ (by assumption))))) K0.out (by omega) (by omega)).mono ?_; rintro e w11 ⟨rfl, hb11⟩; have t11 : Below W4.heap.size W4 w11 := (by repeat (first | exact Below.refl _ _ | assumption | apply bl_alloc | apply bl_drewN | apply Below.drew | (refine bl_set ?_ (by first | exact Nat.le_refl _ | (simp; done) | (simp; omega)) _) | (refine bl_trans ?_ (by assumption)))); have x1_11 := cell_b t11 x1; have ca0_11 := cell_b t11 ca0; have ca1_11 := cell_b t11 ca1; have cb0_11 := cell_b t11 cb0; have cb1_11 := cell_b t11 cb1)
                  (try go_wp2_with fail)
                  clear hHeld
                  refine hK.out _ _ ?hS12 (fun hHeld => ?hT12)
                  case hS12 => (((try dsimp only); refine ⟨?_, ?_, ?_, ?_, ?_⟩ <;> (repeat (first | with_reducible assumption | with_reducible refine kc_drew ?_ | with_reducible refine kc_drewN ?_ | with_reducible refine kc_alloc ?_ | with_reducible refine kc_set ?_ (by first | omega | (simp; done) | (simp; omega))))))
                  clear hK K
                  (try simp only [Act.put, List.setIfInBounds_toArray, List.set_cons_zero, List.set_cons_succ])
                  refine wpAnyH_ready (rs := [7]) (by kernel_rfl) (by simp) (AllReadyH.cons rfl (fun K hK => ?hR13) AllReadyH.nil)
                  go_simp
                  (go_at_call 53; refine (implVolume _ _ B' l l' bs bv y (HB.out.below (by repeat (first | exact Below.refl _ _ | assumption | apply bl_alloc | apply bl_drewN | apply Below.drew | (refine bl_set ?_ (by first | exact Nat.le_refl _ | (simp; done) | (simp; omega)) _) | (refine bl_trans ?_ (by assumption))))) (HB'.out.below (by repeat (first | exact Below.refl _ _ | assumption | apply bl_alloc | apply bl_drewN | apply Below.drew | (refine bl_set ?_ (by first | exact Nat.le_refl _ | (simp; done) | (simp; omega)) _) | (refine bl_trans ?_ (by assumption))))) K1.out (by omega) (by omega)).mono ?_; rintro e w12 ⟨rfl, hb12⟩; have t12 : Below W4.heap.size W4 w12 := (by repeat (first | exact Below.refl _ _ | assumption | apply bl_alloc | apply bl_drewN | apply Below.drew | (refine bl_set ?_ (by first | exact Nat.le_refl _ | (simp; done) | (simp; omega)) _) | (refine bl_trans ?_ (by assumption)))); have x1_12 := cell_b t12 x1; have ca0_12 := cell_b t12 ca0; have ca1_12 := cell_b t12 ca1; have cb0_12 := cell_b t12 cb0; have cb1_12 := cell_b t12 cb1)
                  (try go_wp2_with fail)
                  clear hHeld
                  refine hK.out _ _ ?hS13 (fun hHeld => ?hT13)
                  case hS13 => (((try dsimp only); refine ⟨?_, ?_, ?_, ?_, ?_⟩ <;> (repeat (first | with_reducible assumption | with_reducible refine kc_drew ?_ | with_reducible refine kc_drewN ?_ | with_reducible refine kc_alloc ?_ | with_reducible refine kc_set ?_ (by first | omega | (simp; done) | (simp; omega))))))
                  clear hK K
                  (try simp only [Act.put, List.setIfInBounds_toArray, List.set_cons_zero, List.set_cons_succ])
                  refine wpAnyH_take (i := 8) (v := ?hv14) rfl (by kernel_rfl) (by kernel_rfl) (by kernel_rfl) (fun _ _ _ h => h) (Or.inl ⟨by rfl, ?hy14⟩) (by assumption) ?hR14
                  case hy14 => (intro wq hSw; (try dsimp only at hSw); go_simp; (try with_reducible rfl))
                  simp only [Act.put, List.setIfInBounds_toArray, List.set_cons_zero, List.set_cons_succ]
                  refine wpAnyH_ready (rs := [11]) (by kernel_rfl) (by simp) (AllReadyH.cons rfl (fun K hK => ?hR15) AllReadyH.nil)
                  go_simp
                  (go_at_call 53; refine (implVolume _ _ A' k k' ar av (joLo ar bs) (HA.out.below (by repeat (first | exact Below.refl _ _ | assumption | apply bl_alloc | apply bl_drewN | apply Below.drew | (refine bl_set ?_ (by first | exact Nat.le_refl _ | (simp; done) | (simp; omega)) _) | (refine bl_trans ?_ (by assumption))))) (HA'.out.below (by repeat (first | exact Below.refl _ _ | assumption | apply bl_alloc | apply bl_drewN | apply Below.drew | (refine bl_set ?_ (by first | exact Nat.le_refl _ | (simp; done) | (simp; omega)) _) | (refine bl_trans ?_ (by assumption))))) K0.out (by omega) (by omega)).mono ?_; rintro e w13 ⟨rfl, hb13⟩; have t13 : Below W4.heap.size W4 w13 := (by repeat (first | exact Below.refl _ _ | assumption | apply bl_alloc | apply bl_drewN | apply Below.drew | (refine bl_set ?_ (by first | exact Nat.le_refl _ | (simp; done) | (simp; omega)) _) | (refine bl_trans ?_ (by assumption)))); have x1_13 := cell_b t13 x1; have ca0_13 := cell_b t13 ca0; have ca1_13 := cell_b t13 ca1; have cb0_13 := cell_b t13 cb0; have cb1_13 := cell_b t13 cb1)
                  (try go_wp2_with fail)
                  clear hHeld
                  refine hK.out _ _ ?hS15 (fun hHeld => ?hT15)
                  case hS15 => (((try dsimp only); refine ⟨?_, ?_, ?_, ?_, ?_⟩ <;> (repeat (first | with_reducible assumption | with_reducible refine kc_drew ?_ | with_reducible refine kc_drewN ?_ | with_reducible refine kc_alloc ?_ | with_reducible refine kc_set ?_ (by first | omega | (simp; done) | (simp; omega))))))
                  clear hK K
                  (try simp only [Act.put, List.setIfInBounds_toArray, List.set_cons_zero, List.set_cons_succ])
                  refine wpAnyH_take (i := 12) (v := ?hv16) rfl (by kernel_rfl) (by kernel_rfl) (by kernel_rfl) (fun _ _ _ h => h) (Or.inl ⟨by rfl, ?hy16⟩) (by assumption) ?hR16
                  case hy16 => (intro wq hSw; (try dsimp only at hSw); go_simp; (try with_reducible rfl))
                  simp only [Act.put, List.setIfInBounds_toArray, List.set_cons_zero, List.set_cons_succ]
                  refine wpAnyH_ready (rs := [15]) (by kernel_rfl) (by simp) (AllReadyH.cons rfl (fun K hK => ?hR17) AllReadyH.nil)
                  go_simp
                  (go_at_call 53; refine (implVolume _ _ B' l l' bs bv (joLo ar bs) (HB.out.below (by repeat (first | exact Below.refl _ _ | assumption | apply bl_alloc | apply bl_drewN | apply Below.drew | (refine bl_set ?_ (by first | exact Nat.le_refl _ | (simp; done) | (simp; omega)) _) | (refine bl_trans ?_ (by assumption))))) (HB'.out.below (by repeat (first | exact Below.refl _ _ | assumption | apply bl_alloc | apply bl_drewN | apply Below.drew | (refine bl_set ?_ (by first | exact Nat.le_refl _ | (simp; done) | (simp; omega)) _) | (refine bl_trans ?_ (by assumption))))) K1.out (by omega) (by omega)).mono ?_; rintro e w14 ⟨rfl, hb14⟩; have t14 : Below W4.heap.size W4 w14 := (by repeat (first | exact Below.refl _ _ | assumption | apply bl_alloc | apply bl_drewN | apply Below.drew | (refine bl_set ?_ (by first | exact Nat.le_refl _ | (simp; done) | (simp; omega)) _) | (refine bl_trans ?_ (by assumption)))); have x1_14 := cell_b t14 x1; have ca0_14 := cell_b t14 ca0; have ca1_14 := cell_b t14 ca1; have cb0_14 := cell_b t14 cb0; have cb1_14 := cell_b t14 cb1)
                  (try go_wp2_with fail)
                  clear hHeld
                  refine hK.out _ _ ?hS17 (fun hHeld => ?hT17)
                  case hS17 => (((try dsimp only); refine ⟨?_, ?_, ?_, ?_, ?_⟩ <;> (repeat (first | with_reducible assumption | with_reducible refine kc_drew ?_ | with_reducible refine kc_drewN ?_ | with_reducible refine kc_alloc ?_ | with_reducible refine kc_set ?_ (by first | omega | (simp; done) | (simp; omega))))))
                  clear hK K
                  (try simp only [Act.put, List.setIfInBounds_toArray, List.set_cons_zero, List.set_cons_succ])
                  refine wpAnyH_take (i := 16) (v := ?hv18) rfl (by kernel_rfl) (by kernel_rfl) (by kernel_rfl) (fun _ _ _ h => h) (Or.inl ⟨by rfl, ?hy18⟩) (by assumption) ?hR18
                  case hy18 => (intro wq hSw; (try dsimp only at hSw); go_simp; (try with_reducible rfl))
                  simp only [Act.put, List.setIfInBounds_toArray, List.set_cons_zero, List.set_cons_succ]
                  refine wpAnyH_ready (rs := [17]) (by kernel_rfl) (by simp) (AllReadyH.cons rfl (fun K hK => ?hR19) AllReadyH.nil)
                  go_simp
                  clear hHeld
                  refine hK.out _ _ ?hS19 (fun hHeld => ?hT19)
                  case hS19 => (((try dsimp only); refine ⟨?_, ?_, ?_, ?_, ?_⟩ <;> (repeat (first | with_reducible assumption | with_reducible refine kc_drew ?_ | with_reducible refine kc_drewN ?_ | with_reducible refine kc_alloc ?_ | with_reducible refine kc_set ?_ (by first | omega | (simp; done) | (simp; omega))))))
                  clear hK K
                  (try simp only [Act.put, List.setIfInBounds_toArray, List.set_cons_zero, List.set_cons_succ])
                  refine wpAnyH_ready (rs := [18]) (by kernel_rfl) (by simp) (AllReadyH.cons rfl (fun K hK => ?hR20) AllReadyH.nil)
                  have O14 := Lib.hid (O4.out.below t14)
                  have K14 := keep_blk (hb := t14) (h := K4.out)
                  have X14 := keep_blk (hb := t14) (h := XA4.out)
                  have Y14 := keep_blk (hb := t14) (h := XB4.out)
                  have R14 := keep_blk (hb := t14) (h := XR4.out)
                  have z14 := t14.size
                  refine step_append_lies _ (by rfl) _ _ _ (by rfl) (wk.heap.size + 1) 2 i0 (.int .i64 0) 1 8 Try.underlying22 hi hz0 hz1 hz2 rfl (by decide) (.slice A2 n c2) n (ints (joU ar av bs bv j)) (by rfl) ((O14.out.bn HN2.out).alloc _) ⟨w14.heap.size, 0, none⟩ 1 1 [.int .i64 (volAt ar av y + volAt bs bv y - volAt ar av (joLo ar bs) - volAt bs bv (joLo ar bs))] (by rfl) (by rfl) (app_news (heap_alloc_new w14 _)) (app_one _) (by decide) (by unfold maxLen; omega) (by omega) (by simp; omega) (w14.heap.size + 1) (by simp) ?_
                  intro g2 cap2 w7 hown7 hgrow7 hat7 hlt7
                  have kc7 := (O14.out.alloc (.cells #[.int .i64 (volAt ar av y + volAt bs bv y - volAt ar av (joLo ar bs) - volAt bs bv (joLo ar bs))] 2)).keepR hgrow7 (blk_old K14) (.inl rfl)
                  obtain ⟨u0, u1, uf0, uf1, ul⟩ := cells_two kc7 (Below.refl _ _)
                  have O7 := Lib.hid ((O14.out.alloc (.cells #[.int .i64 (volAt ar av y + volAt bs bv y - volAt ar av (joLo ar bs) - volAt bs bv (joLo ar bs))] 2)).rightN HN2.out hown7 hgrow7 hat7 (by simp) HS2.out)
                  have R7 := Lib.hid ((O14.out.alloc (.cells #[.int .i64 (volAt ar av y + volAt bs bv y - volAt ar av (joLo ar bs) - volAt bs bv (joLo ar bs))] 2)).belowR (bl_alloc (bl_trans B4.out t14) _) (by omega) hgrow7)
                  have XA7 := Lib.hid ((O14.out.alloc (.cells #[.int .i64 (volAt ar av y + volAt bs bv y - volAt ar av (joLo ar bs) - volAt bs bv (joLo ar bs))] 2)).keepR hgrow7 (blk_old X14) (.inr (by omega)))
                  have XB7 := Lib.hid ((O14.out.alloc (.cells #[.int .i64 (volAt ar av y + volAt bs bv y - volAt ar av (joLo ar bs) - volAt bs bv (joLo ar bs))] 2)).keepR hgrow7 (blk_old Y14) (.inr (by omega)))
                  have XR7 := Lib.hid ((O14.out.alloc (.cells #[.int .i64 (volAt ar av y + volAt bs bv y - volAt ar av (joLo ar bs) - volAt bs bv (joLo ar bs))] 2)).keepR hgrow7 (blk_old R14) (.inr (by omega)))
                  obtain ⟨da0, da1, dal⟩ := row_two XA7.out
                  obtain ⟨db0, db1, dbl⟩ := row_two XB7.out
                  clear hown7 hgrow7 hat7 hlt7
                  clear hHeld
                  refine hK.out _ _ ?hS20 (fun hHeld => ?hT20)
                  case hS20 => (((try dsimp only); refine ⟨?_, ?_, ?_, ?_, ?_⟩ <;> (repeat (first | with_reducible assumption | with_reducible refine kc_drew ?_ | with_reducible refine kc_drewN ?_ | with_reducible refine kc_alloc ?_ | with_reducible refine kc_set ?_ (by first | omega | (simp; done) | (simp; omega))))))
                  clear hK K
                  (try simp only [Act.put, List.setIfInBounds_toArray, List.set_cons_zero, List.set_cons_succ])
                  refine wpAnyH_done (by kernel_rfl) ?hR21 _
                  show wpList _ _ _ _ _ _
                  clear W1 W2 W3
                  go_wp2
                  go_roundg ((joHi ar bs - joLo ar bs + 1).toNat - (j + 1))
                  case measure => rw [HGK.out]; omega
                  case rel => exact ⟨j + 1, n + 1, by omega, rfl, by rw [HY.out]; go_num, Lib.hid (by rw [HS.out, List.length_append, HN1.out]; rfl), ⟨some ⟨g, 0, none⟩, cap, some ⟨g2, 0, none⟩, cap2, heap_setCell_same _ _ 1 _ _ _ kc7, O7.out.set 1 _⟩, kb_set XA7.out (by first | (simp; done) | (simp; omega)), kb_set XB7.out (by first | (simp; done) | (simp; omega)), kb_set XR7.out (by first | (simp; done) | (simp; omega)), by have r2 := R7.out; repeat (first | exact Below.refl _ _ | assumption | apply bl_alloc | apply bl_drewN | apply Below.drew | (refine bl_set ?_ (by first | exact Nat.le_refl _ | (simp; done) | (simp; omega)) _) | (refine bl_trans ?_ (by assumption)))⟩
            · obtain rfl : j = (joHi ar bs - joLo ar bs + 1).toNat := by omega
              have HT := Lib.hid (show joT ar av bs bv (joHi ar bs - joLo ar bs + 1).toNat = joLs ar bs from rfl)
              have HU := Lib.hid (show joU ar av bs bv (joHi ar bs - joLo ar bs + 1).toNat = joVs ar av bs bv from rfl)
              obtain ⟨oa, ob, ap⟩ := hO.endsN HN1.out HN2.out
              rw [HT.out] at oa
              rw [HU.out] at ob
              have E1 := Lib.hid (show (joLs ar bs).length = n from by rw [← HT.out]; exact HN1.out)
              have E2 := Lib.hid (show (joVs ar av bs bv).length = n from by rw [← HU.out]; exact HN2.out)
              have HVC := Lib.hid (fun (v : Bool) (hv : curveOk (joLs ar bs) (joVs ar av bs bv) = v) => (by
                have h := implValidCurve wr A1 A2 c1 c2 (joLs ar bs) (joVs ar av bs bv) oa.rc ob.rc (by rw [E1.out]; omega) (by rw [E2.out]; omega)
                rw [E1.out, E2.out, hv] at h
                exact h : Calls Try.prog 47 #[.agg #[.slice A1 n c1, .slice A2 n c2]] wr fun e w' => e = .returned (.bool v) ∧ Below wr.heap.size wr w'))
              cases k5 : curveOk (joLs ar bs) (joVs ar av bs bv)
              · have HV := HVC.out _ k5
                have HC := Lib.hid (jo_bad4 K0.out K1.out k2 k5)
                have H := Lib.hid (jo_no HC.out (by omega))
                go_wp2_with (go_at_call 47; refine HV.mono ?_; rintro e w5 ⟨rfl, hb5⟩; have kr5 : w5.heap[w.heap.size + 2]? = some (.cells #[.slice none 0 0, .slice none 0 0] 32 (0, 0)) := keep_blk (hb := hb5) (h := kr); obtain ⟨z0, z1, zf0, zf1, zl⟩ := cells_two kr5 (Below.refl _ _))
                refine bodyPost_ret (v := .tuple #[.agg #[.slice none 0 0, .slice none 0 0], .int .i64 5]) (by simp [results, Try.results23, go_sem, z0, z1]) rfl ?_
                rw [H.out.1, H.out.2, HC.out]
                exact ⟨none, 0, none, 0, rfl, OwnC.nil _ _ _ _, OwnC.nil _ _ _ _, Apart.none _, by repeat (first | exact Below.refl _ _ | assumption | apply bl_alloc | apply bl_drewN | apply Below.drew | (refine bl_set ?_ (by first | exact Nat.le_refl _ | (simp; done) | (simp; omega)) _) | (refine bl_trans ?_ (by assumption)))⟩
              · have HC := Lib.hid (jo_ok K0.out K1.out k2 k5)
                have H := Lib.hid (jo_yes HC.out)
                have HV := HVC.out _ k5
                go_wp2_with (go_at_call 47; refine HV.mono ?_; rintro e w5 ⟨rfl, hb5⟩; have kr5 : w5.heap[w.heap.size + 2]? = some (.cells #[.slice none 0 0, .slice none 0 0] 32 (0, 0)) := keep_blk (hb := hb5) (h := kr); obtain ⟨z0, z1, zf0, zf1, zl⟩ := cells_two kr5 (Below.refl _ _); have kc5 := keep_blk (hb := hb5) (h := kc); obtain ⟨y0, y1, yf0, yf1, yl⟩ := cells_two kc5 (Below.refl _ _))
                refine bodyPost_ret (v := .tuple #[.agg #[.slice A1 n c1, .slice A2 n c2], .int .i64 0]) (by simp [results, Try.results23, go_sem, z0, z1]) rfl ?_
                rw [H.out.1, H.out.2, HC.out]
                have z5 := hb5.size
                (try simp at z5)
                exact ⟨_, _, _, _, by rw [E1.out, E2.out], (((oa.below hb5).far (.inl (by simp; omega)) _).far (.inl (by simp; omega)) _).wide (by omega) (by simp; omega), (((ob.below hb5).far (.inl (by simp; omega)) _).far (.inl (by simp; omega)) _).wide (by omega) (by simp; omega), ap, by repeat (first | exact Below.refl _ _ | assumption | apply bl_alloc | apply bl_drewN | apply Below.drew | (refine bl_set ?_ (by first | exact Nat.le_refl _ | (simp; done) | (simp; omega)) _) | (refine bl_trans ?_ (by assumption)))⟩
        · skip
          have HC := Lib.hid (jo_bad3 K0.out K1.out k2)
          have H := Lib.hid (jo_no HC.out (by omega))
          go_wp2
          refine bodyPost_ret (v := .tuple #[.agg #[.slice none 0 0, .slice none 0 0], .int .i64 9]) (by simp [results, Try.results23, go_sem, kr0, kr1]) rfl ?_
          rw [H.out.1, H.out.2, HC.out]
          exact ⟨none, 0, none, 0, rfl, OwnC.nil _ _ _ _, OwnC.nil _ _ _ _, Apart.none _, by repeat (first | exact Below.refl _ _ | assumption | apply bl_alloc | apply bl_drewN | apply Below.drew | (refine bl_set ?_ (by first | exact Nat.le_refl _ | (simp; done) | (simp; omega)) _) | (refine bl_trans ?_ (by assumption)))⟩
end Go.Proofs.Ytcgnnlgakfndaaa
