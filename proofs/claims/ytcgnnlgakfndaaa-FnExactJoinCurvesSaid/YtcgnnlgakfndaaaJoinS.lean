/-
  Contracts: two curves joined, the reference. They hold for curves of at most 1048576 numbers a list.
-/
import Derived.IntWalk
import Derived.Test.YtcgnnlgakfndaaaJoin
import Derived.Test.YtcgnnlgakfndaaaColS
import Derived.Deep.RegionHeld3
import Derived.Deep.AppendLies
import Derived.Deep.DeepCutAuto
namespace Go.Proofs.Ytcgnnlgakfndaaa
set_option linter.unusedVariables false
set_option linter.unusedSimpArgs false
open Go.RowKit

theorem put_done {l : List Int} {x : Int} {k : Nat} (h : puD l x k = true) : puTo l x (k + 1) = puTo l x k ++ [gt l k] ∧ puD l x (k + 1) = true := by simp [puTo, puD, h]
theorem put_lt {l : List Int} {x : Int} {k : Nat} (h : puD l x k = false) (hx : x < gt l k) : puTo l x (k + 1) = (puTo l x k ++ [x]) ++ [gt l k] ∧ puD l x (k + 1) = true := by
  have h1 : x ≤ gt l k := by omega
  simp [puTo, puD, h, hx, h1]
theorem put_eq {l : List Int} {x : Int} {k : Nat} (h : puD l x k = false) (h1 : x ≤ gt l k) (hx : ¬ x < gt l k) : puTo l x (k + 1) = puTo l x k ++ [gt l k] ∧ puD l x (k + 1) = true := by simp [puTo, puD, h, hx, h1]
theorem put_gt {l : List Int} {x : Int} {k : Nat} (h : puD l x k = false) (h1 : ¬ x ≤ gt l k) : puTo l x (k + 1) = puTo l x k ++ [gt l k] ∧ puD l x (k + 1) = false := by
  have hx : ¬ x < gt l k := by omega
  simp [puTo, puD, h, hx, h1]
theorem put_end1 {l : List Int} {x : Int} (h : puD l x l.length = true) : puL l x = puTo l x l.length := by simp [puL, h]
theorem put_end2 {l : List Int} {x : Int} (h : puD l x l.length = false) : puL l x = puTo l x l.length ++ [x] := by simp [puL, h]
theorem puTo_le (l : List Int) (x : Int) (k : Nat) : (puTo l x k).length ≤ k + 1 := by
  have h := puTo_len2 l x k
  split at h <;> omega
theorem apart_far {B E F : Nat} {w w' : World} {X A : Option Addr} {cs ds : List Value} (h : OwnC B E w X cs) (h' : OwnC E F w' A ds) (h0 : 0 < cs.length) (h1 : 0 < ds.length) : Apart X A := fun a a' ha ha' e => by
  obtain ⟨g, _, _, hX, _, h2, _⟩ := h h0
  obtain ⟨g', _, _, hA, h3, _⟩ := h' h1
  rw [ha] at hX
  rw [ha'] at hA
  cases hX
  cases hA
  simp at e
  omega
theorem l00In_b {n lo hi : Int} {b : Bool} (h : inR n lo hi = b) (w : World) : Calls Try.prog 40 #[.int .i64 n, .int .i64 lo, .int .i64 hi] w fun e w' => e = .returned (.bool b) ∧ w = w' := by rw [← h]; exact l00In_any _ _ _ _
set_option maxRecDepth 100000 in
set_option maxHeartbeats 3200000 in
theorem l00Put_any (w : World) (A : Option Addr) (c : Nat) (zs : List Int) (x : Int) (hA : RC w A (ints zs)) (hm : zs.length ≤ 1048576) :
    Calls Try.prog 49 #[.slice A zs.length c, .int .i64 x] w (NewInts (puL zs x) w) := by
  have HA := Lib.hid hA
  clear hA
  obtain ⟨i0, hi, hz0, hz1, hz2⟩ := info_parts infoInt
  go_enter Try.func49, Try.ntmps49
  go_wp2
  go_loopg [5, 6, 7] zs.length (fun m v d i wr => ∃ k, k ≤ zs.length ∧ m = zs.length - k ∧ i = .int .i64 (k : Int) ∧ d = .bool (puD zs x k) ∧ wr.ownsRow w.heap.size 2 1 v (puTo zs x k).length (ints (puTo zs x k)) ∧ Below w.heap.size w wr)
  case atStart => exact ⟨0, Nat.zero_le _, by omega, rfl, rfl, own_lit _ (Below.refl _ _), bl_alloc (Below.refl _ _) _⟩
  case round =>
    obtain ⟨k, hk, hgk, rfl, rfl, hown, hb⟩ := hrel
    have HGK := Lib.hid hgk
    clear hgk
    have hlen := puTo_le zs x k
    by_cases hlt : k < zs.length
    · obtain ⟨b, off, rfl, hbl, hcell⟩ := HA.out (by rw [ints_len]; omega)
      have h0 := hcell k (by rw [ints_len]; exact hlt)
      rw [ints_get zs k hlt] at h0
      clear hcell
      obtain ⟨y, hy⟩ : ∃ y, y = gt zs k := ⟨_, rfl⟩
      rw [← hy] at h0
      have HW := Lib.hid h0
      have h1 := (hb.cell (p := ⟨b, off + k, none⟩) hbl).trans h0
      clear h0
      cases hd : puD zs x k
      · by_cases q1 : x ≤ y
        · by_cases q2 : x < y
          · skip
            have HS := Lib.hid (show puTo zs x (k + 1) = (puTo zs x k ++ [x]) ++ [y] ∧ puD zs x (k + 1) = true from by rw [hy] at q2 ⊢; exact put_lt hd q2)
            clear hd hy
            go_wp2_with (first | (at_builtin; refine wpList_append_own _ rfl (.tmp 31) (.tmp 33) 22 rfl w.heap.size 2 i0 (.int .i64 0) 1 8 Try.underlying22 hi hz0 hz1 hz2 rfl (by decide) _ _ _ rfl (hown.alloc _) ⟨wr.heap.size, 0, none⟩ 1 1 [.int .i64 x] rfl rfl (by first | exact app_news (heap_alloc_new _ _) | exact app_news (heap_alloc_new wr _)) (app_one _) (by have := hlen; unfold maxLen; (try simp only [List.length_append, List.length_singleton]); omega) (by have := hlen; (try simp only [List.length_append, List.length_singleton]); omega) (by have := (hb).size; simp; omega) ?_; intro v3 w3 hown3 hgrow3 _; have own3 := app_own hown3 (rfl : _ = _ ++ [x]); have bel3 := app_below (bl_alloc hb _) (hown.alloc _) hgrow3; clear hown3 hgrow3; have h3 := (bel3.cell (p := ⟨b, off + k, none⟩) hbl).trans HW.out) | (at_builtin; refine wpList_append_own _ rfl (.tmp 35) (.tmp 40) 22 rfl w.heap.size 2 i0 (.int .i64 0) 1 8 Try.underlying22 hi hz0 hz1 hz2 rfl (by decide) _ _ _ rfl (own3.alloc _) ⟨w3.heap.size, 0, none⟩ 1 1 [.int .i64 y] rfl rfl (by first | exact app_news (heap_alloc_new _ _) | exact app_news (heap_alloc_new w3 _)) (app_one _) (by have := hlen; unfold maxLen; (try simp only [List.length_append, List.length_singleton]); omega) (by have := hlen; (try simp only [List.length_append, List.length_singleton]); omega) (by have := (bel3).size; simp; omega) ?_; intro v4 w4 hown4 hgrow4 _; have own4 := app_own hown4 (rfl : _ = _ ++ [y]); have bel4 := app_below (bl_alloc bel3 _) (own3.alloc _) hgrow4; clear hown4 hgrow4))
            go_roundg (zs.length - (k + 1))
            case measure => rw [HGK.out]; omega
            case rel => exact ⟨k + 1, by omega, rfl, by go_num, by rw [HS.out.2], by rw [HS.out.1]; exact own4, bel4⟩
          · skip
            have HS := Lib.hid (show puTo zs x (k + 1) = puTo zs x k ++ [y] ∧ puD zs x (k + 1) = true from by rw [hy] at q1 q2 ⊢; exact put_eq hd q1 q2)
            clear hd hy
            go_wp2_with (at_builtin; refine wpList_append_own _ rfl (.tmp 35) (.tmp 40) 22 rfl w.heap.size 2 i0 (.int .i64 0) 1 8 Try.underlying22 hi hz0 hz1 hz2 rfl (by decide) _ _ _ rfl (hown.alloc _) ⟨wr.heap.size, 0, none⟩ 1 1 [.int .i64 y] rfl rfl (by first | exact app_news (heap_alloc_new _ _) | exact app_news (heap_alloc_new wr _)) (app_one _) (by have := hlen; unfold maxLen; (try simp only [List.length_append, List.length_singleton]); omega) (by have := hlen; (try simp only [List.length_append, List.length_singleton]); omega) (by have := (hb).size; simp; omega) ?_; intro v3 w3 hown3 hgrow3 _; have own3 := app_own hown3 (rfl : _ = _ ++ [y]); have bel3 := app_below (bl_alloc hb _) (hown.alloc _) hgrow3; clear hown3 hgrow3)
            go_roundg (zs.length - (k + 1))
            case measure => rw [HGK.out]; omega
            case rel => exact ⟨k + 1, by omega, rfl, by go_num, by rw [HS.out.2], by rw [HS.out.1]; exact own3, bel3⟩
        · skip
          have HS := Lib.hid (show puTo zs x (k + 1) = puTo zs x k ++ [y] ∧ puD zs x (k + 1) = false from by rw [hy] at q1 ⊢; exact put_gt hd q1)
          clear hd hy
          go_wp2_with (at_builtin; refine wpList_append_own _ rfl (.tmp 35) (.tmp 40) 22 rfl w.heap.size 2 i0 (.int .i64 0) 1 8 Try.underlying22 hi hz0 hz1 hz2 rfl (by decide) _ _ _ rfl (hown.alloc _) ⟨wr.heap.size, 0, none⟩ 1 1 [.int .i64 y] rfl rfl (by first | exact app_news (heap_alloc_new _ _) | exact app_news (heap_alloc_new wr _)) (app_one _) (by have := hlen; unfold maxLen; (try simp only [List.length_append, List.length_singleton]); omega) (by have := hlen; (try simp only [List.length_append, List.length_singleton]); omega) (by have := (hb).size; simp; omega) ?_; intro v3 w3 hown3 hgrow3 _; have own3 := app_own hown3 (rfl : _ = _ ++ [y]); have bel3 := app_below (bl_alloc hb _) (hown.alloc _) hgrow3; clear hown3 hgrow3)
          go_roundg (zs.length - (k + 1))
          case measure => rw [HGK.out]; omega
          case rel => exact ⟨k + 1, by omega, rfl, by go_num, by rw [HS.out.2], by rw [HS.out.1]; exact own3, bel3⟩
      · skip
        have HS := Lib.hid (show puTo zs x (k + 1) = puTo zs x k ++ [y] ∧ puD zs x (k + 1) = true from by rw [hy]; exact put_done hd)
        clear hd hy
        go_wp2_with (at_builtin; refine wpList_append_own _ rfl (.tmp 35) (.tmp 40) 22 rfl w.heap.size 2 i0 (.int .i64 0) 1 8 Try.underlying22 hi hz0 hz1 hz2 rfl (by decide) _ _ _ rfl (hown.alloc _) ⟨wr.heap.size, 0, none⟩ 1 1 [.int .i64 y] rfl rfl (by first | exact app_news (heap_alloc_new _ _) | exact app_news (heap_alloc_new wr _)) (app_one _) (by have := hlen; unfold maxLen; (try simp only [List.length_append, List.length_singleton]); omega) (by have := hlen; (try simp only [List.length_append, List.length_singleton]); omega) (by have := (hb).size; simp; omega) ?_; intro v3 w3 hown3 hgrow3 _; have own3 := app_own hown3 (rfl : _ = _ ++ [y]); have bel3 := app_below (bl_alloc hb _) (hown.alloc _) hgrow3; clear hown3 hgrow3)
        go_roundg (zs.length - (k + 1))
        case measure => rw [HGK.out]; omega
        case rel => exact ⟨k + 1, by omega, rfl, by go_num, by rw [HS.out.2], by rw [HS.out.1]; exact own3, bel3⟩
    · obtain rfl : k = zs.length := by omega
      cases hd : puD zs x zs.length
      · have HS := Lib.hid (put_end2 hd)
        clear hd
        go_wp2_with (at_builtin; refine wpList_append_own _ rfl (.tmp 44) (.tmp 46) 22 rfl w.heap.size 2 i0 (.int .i64 0) 1 8 Try.underlying22 hi hz0 hz1 hz2 rfl (by decide) _ _ _ rfl (hown.alloc _) ⟨wr.heap.size, 0, none⟩ 1 1 [.int .i64 x] rfl rfl (by first | exact app_news (heap_alloc_new _ _) | exact app_news (heap_alloc_new wr _)) (app_one _) (by have := hlen; unfold maxLen; (try simp only [List.length_append, List.length_singleton]); omega) (by have := hlen; (try simp only [List.length_append, List.length_singleton]); omega) (by have := (hb).size; simp; omega) ?_; intro v3 w3 hown3 hgrow3 _; have own3 := app_own hown3 (rfl : _ = _ ++ [x]); have bel3 := app_below (bl_alloc hb _) (hown.alloc _) hgrow3; clear hown3 hgrow3)
        go_ret
        rw [HS.out]
        exact new_end own3 bel3
      · have HS := Lib.hid (put_end1 hd)
        clear hd
        go_wp2
        go_ret
        rw [HS.out]
        exact new_end hown hb
theorem own_pair {W : World} {B T : Nat} {a b : Int} (hB : B ≤ W.heap.size) : OwnC B (W.alloc (.cells #[.int .i64 a, .int .i64 b] T)).heap.size (W.alloc (.cells #[.int .i64 a, .int .i64 b] T)) (some ⟨W.heap.size, 0, none⟩) (ints [a, b]) := fun _ =>
  ⟨W.heap.size, _, T, rfl, hB, by simp, heap_alloc_new W _, fun i hi => by
    rw [ints_len] at hi
    match i, hi with
    | 0, _ => rfl
    | 1, _ => rfl⟩
theorem own2_nil (W : World) {T g : Nat} {c : Array Value} {t : TypeId} (hg : W.heap.size = g) :
    Own2 ((W.alloc (.cells #[] T)).alloc (.cells c t)) g (g + 1) T (.slice none 0 0) [] (.slice (some ⟨g, 0, none⟩) 0 0) [] := by
  subst hg
  have h1 : (W.alloc (.cells #[] T)).ownsRow W.heap.size T 1 (.slice (some ⟨W.heap.size, 0, none⟩) 0 0) 0 (ints []) := own_litB T W.heap.size (Nat.le_refl _)
  refine ⟨World.ownsRow_nil _ _ _ _, h1.alloc _, fun g hg hu => ?_, fun g hg => ?_, fun g hg => ?_, by simp⟩
  · cases hg
  · cases hg
  · simp [Value.ownBlock] at hg
    omega
def joP (ar bs : List Int) (j : Nat) : List Int := pinTo [joLo ar bs, joHi ar bs] ar (joLo ar bs) (joHi ar bs) j
def joR (ar bs : List Int) (j : Nat) : List Int := pinTo (joP ar bs ar.length) bs (joLo ar bs) (joHi ar bs) j
theorem joP_le (ar bs : List Int) (j : Nat) : (joP ar bs j).length ≤ 2 + j := pinTo_len _ _ _ _ _
theorem joR_le (ar bs : List Int) (j : Nat) : (joR ar bs j).length ≤ 2 + ar.length + j := by
  have h1 := joP_le ar bs ar.length
  have h2 := pinTo_len (joP ar bs ar.length) bs (joLo ar bs) (joHi ar bs) j
  unfold joR
  omega
theorem joR_end {ar bs : List Int} (h : joLo ar bs < joHi ar bs) : joR ar bs bs.length = joLs ar bs := join_eq h
theorem l00Max_of {a b c : Int} (h : c = mx a b) (w : World) : Calls Try.prog 34 #[.int .i64 a, .int .i64 b] w fun e w' => e = .returned (.int .i64 c) ∧ w = w' := by rw [h]; exact l00Max_any _ _ _
theorem l00Min_of {a b c : Int} (h : c = mn a b) (w : World) : Calls Try.prog 48 #[.int .i64 a, .int .i64 b] w fun e w' => e = .returned (.int .i64 c) ∧ w = w' := by rw [h]; exact l00Min_any _ _ _
set_option maxRecDepth 100000 in
set_option maxHeartbeats 12800000 in
theorem specJoin (w : World) (A A' B B' : Option Addr) (k k' l l' : Nat) (ar av bs bv : List Int) (hA : RC w A (ints ar)) (hA' : RC w A' (ints av)) (hB : RC w B (ints bs)) (hB' : RC w B' (ints bv)) (hm : ar.length ≤ 1048576) (hm' : av.length ≤ 1048576) (hn : bs.length ≤ 1048576) (hn' : bv.length ≤ 1048576) : Calls Try.prog 21 #[.agg #[.slice A ar.length k, .slice A' av.length k'], .agg #[.slice B bs.length l, .slice B' bv.length l']] w (NewCurveD (joL ar av bs bv) (joV ar av bs bv) (joC ar av bs bv) w) := by
  have HA := Lib.hid hA
  have HA' := Lib.hid hA'
  have HB := Lib.hid hB
  have HB' := Lib.hid hB'
  clear hA hA' hB hB'
  cases k0 : curveOk ar av
  · skip
    have HC := Lib.hid (jo_bad1 (bs := bs) (bv := bv) k0)
    have H := Lib.hid (jo_no HC.out (by omega))
    go_enter Try.func21, Try.ntmps21
    go_wp2_with (first | (go_at_call 42; (with_reducible refine (l05Ok_any _ (w.heap.size) A A' k k' ar av (by first | assumption | simp [go_sem]) (by first | assumption | simp [go_sem]) (HA.out.below (by repeat (first | exact Below.refl _ _ | assumption | apply bl_alloc | apply bl_drewN | apply Below.drew | (refine bl_set ?_ (by first | exact Nat.le_refl _ | (simp; done) | (simp; omega)) _) | (refine bl_trans ?_ (by assumption))))) (HA'.out.below (by repeat (first | exact Below.refl _ _ | assumption | apply bl_alloc | apply bl_drewN | apply Below.drew | (refine bl_set ?_ (by first | exact Nat.le_refl _ | (simp; done) | (simp; omega)) _) | (refine bl_trans ?_ (by assumption))))) hm hm').mono ?_); rintro e w1 ⟨rfl, hb1⟩; have ka : w1.heap[w.heap.size]? = some (.cells #[.slice A ar.length k, .slice A' av.length k'] 32 (0, 0)) := keep_blk (hb := hb1) (h := by first | exact ka | (repeat (first | (refine blk_new ?_; (first | rfl | (simp; done) | (simp; omega))) | refine blk_drewN ?_ | refine blk_old ?_))); obtain ⟨ka0, ka1, kal⟩ := row_two ka; have kb : w1.heap[w.heap.size + 1]? = some (.cells #[.slice B bs.length l, .slice B' bv.length l'] 32 (0, 0)) := keep_blk (hb := hb1) (h := by first | exact kb | (repeat (first | (refine blk_new ?_; (first | rfl | (simp; done) | (simp; omega))) | refine blk_drewN ?_ | refine blk_old ?_))); obtain ⟨kb0, kb1, kbl⟩ := row_two kb; have kr : w1.heap[w.heap.size + 2]? = some (.cells #[.slice none 0 0, .slice none 0 0] 32 (0, 0)) := keep_blk (hb := hb1) (h := by first | exact kr | (repeat (first | (refine blk_new ?_; (first | rfl | (simp; done) | (simp; omega))) | refine blk_drewN ?_ | refine blk_old ?_))); obtain ⟨kr0, kr1, kf0, kf1, krl⟩ := cells_two kr (Below.refl _ _)) | (go_at_call 42; (with_reducible refine (l05Ok_any _ (w.heap.size + 1) B B' l l' bs bv (by first | assumption | simp [go_sem]) (by first | assumption | simp [go_sem]) (HB.out.below (by repeat (first | exact Below.refl _ _ | assumption | apply bl_alloc | apply bl_drewN | apply Below.drew | (refine bl_set ?_ (by first | exact Nat.le_refl _ | (simp; done) | (simp; omega)) _) | (refine bl_trans ?_ (by assumption))))) (HB'.out.below (by repeat (first | exact Below.refl _ _ | assumption | apply bl_alloc | apply bl_drewN | apply Below.drew | (refine bl_set ?_ (by first | exact Nat.le_refl _ | (simp; done) | (simp; omega)) _) | (refine bl_trans ?_ (by assumption))))) hn hn').mono ?_); rintro e w2 ⟨rfl, hb2⟩; have ka : w2.heap[w.heap.size]? = some (.cells #[.slice A ar.length k, .slice A' av.length k'] 32 (0, 0)) := keep_blk (hb := hb2) (h := by first | exact ka | (repeat (first | (refine blk_new ?_; (first | rfl | (simp; done) | (simp; omega))) | refine blk_drewN ?_ | refine blk_old ?_))); obtain ⟨ka0, ka1, kal⟩ := row_two ka; have kb : w2.heap[w.heap.size + 1]? = some (.cells #[.slice B bs.length l, .slice B' bv.length l'] 32 (0, 0)) := keep_blk (hb := hb2) (h := by first | exact kb | (repeat (first | (refine blk_new ?_; (first | rfl | (simp; done) | (simp; omega))) | refine blk_drewN ?_ | refine blk_old ?_))); obtain ⟨kb0, kb1, kbl⟩ := row_two kb; have kr : w2.heap[w.heap.size + 2]? = some (.cells #[.slice none 0 0, .slice none 0 0] 32 (0, 0)) := keep_blk (hb := hb2) (h := by first | exact kr | (repeat (first | (refine blk_new ?_; (first | rfl | (simp; done) | (simp; omega))) | refine blk_drewN ?_ | refine blk_old ?_))); obtain ⟨kr0, kr1, kf0, kf1, krl⟩ := cells_two kr (Below.refl _ _)))
    refine bodyPost_ret (v := .tuple #[.agg #[.slice none 0 0, .slice none 0 0], .int .i64 1]) (by simp [results, Try.results21, go_sem, kr0, kr1]) rfl ?_
    rw [H.out.1, H.out.2, HC.out]
    exact ⟨none, 0, none, 0, rfl, OwnC.nil _ _ _ _, OwnC.nil _ _ _ _, Apart.none _, by repeat (first | exact Below.refl _ _ | assumption | apply bl_alloc | apply bl_drewN | apply Below.drew | (refine bl_set ?_ (by first | exact Nat.le_refl _ | (simp; done) | (simp; omega)) _) | (refine bl_trans ?_ (by assumption)))⟩
  · cases k1 : curveOk bs bv
    · skip
      have HC := Lib.hid (jo_bad2 (ar := ar) (av := av) k1)
      have H := Lib.hid (jo_no HC.out (by omega))
      go_enter Try.func21, Try.ntmps21
      go_wp2_with (first | (go_at_call 42; (with_reducible refine (l05Ok_any _ (w.heap.size) A A' k k' ar av (by first | assumption | simp [go_sem]) (by first | assumption | simp [go_sem]) (HA.out.below (by repeat (first | exact Below.refl _ _ | assumption | apply bl_alloc | apply bl_drewN | apply Below.drew | (refine bl_set ?_ (by first | exact Nat.le_refl _ | (simp; done) | (simp; omega)) _) | (refine bl_trans ?_ (by assumption))))) (HA'.out.below (by repeat (first | exact Below.refl _ _ | assumption | apply bl_alloc | apply bl_drewN | apply Below.drew | (refine bl_set ?_ (by first | exact Nat.le_refl _ | (simp; done) | (simp; omega)) _) | (refine bl_trans ?_ (by assumption))))) hm hm').mono ?_); rintro e w1 ⟨rfl, hb1⟩; have ka : w1.heap[w.heap.size]? = some (.cells #[.slice A ar.length k, .slice A' av.length k'] 32 (0, 0)) := keep_blk (hb := hb1) (h := by first | exact ka | (repeat (first | (refine blk_new ?_; (first | rfl | (simp; done) | (simp; omega))) | refine blk_drewN ?_ | refine blk_old ?_))); obtain ⟨ka0, ka1, kal⟩ := row_two ka; have kb : w1.heap[w.heap.size + 1]? = some (.cells #[.slice B bs.length l, .slice B' bv.length l'] 32 (0, 0)) := keep_blk (hb := hb1) (h := by first | exact kb | (repeat (first | (refine blk_new ?_; (first | rfl | (simp; done) | (simp; omega))) | refine blk_drewN ?_ | refine blk_old ?_))); obtain ⟨kb0, kb1, kbl⟩ := row_two kb; have kr : w1.heap[w.heap.size + 2]? = some (.cells #[.slice none 0 0, .slice none 0 0] 32 (0, 0)) := keep_blk (hb := hb1) (h := by first | exact kr | (repeat (first | (refine blk_new ?_; (first | rfl | (simp; done) | (simp; omega))) | refine blk_drewN ?_ | refine blk_old ?_))); obtain ⟨kr0, kr1, kf0, kf1, krl⟩ := cells_two kr (Below.refl _ _)) | (go_at_call 42; (with_reducible refine (l05Ok_any _ (w.heap.size + 1) B B' l l' bs bv (by first | assumption | simp [go_sem]) (by first | assumption | simp [go_sem]) (HB.out.below (by repeat (first | exact Below.refl _ _ | assumption | apply bl_alloc | apply bl_drewN | apply Below.drew | (refine bl_set ?_ (by first | exact Nat.le_refl _ | (simp; done) | (simp; omega)) _) | (refine bl_trans ?_ (by assumption))))) (HB'.out.below (by repeat (first | exact Below.refl _ _ | assumption | apply bl_alloc | apply bl_drewN | apply Below.drew | (refine bl_set ?_ (by first | exact Nat.le_refl _ | (simp; done) | (simp; omega)) _) | (refine bl_trans ?_ (by assumption))))) hn hn').mono ?_); rintro e w2 ⟨rfl, hb2⟩; have ka : w2.heap[w.heap.size]? = some (.cells #[.slice A ar.length k, .slice A' av.length k'] 32 (0, 0)) := keep_blk (hb := hb2) (h := by first | exact ka | (repeat (first | (refine blk_new ?_; (first | rfl | (simp; done) | (simp; omega))) | refine blk_drewN ?_ | refine blk_old ?_))); obtain ⟨ka0, ka1, kal⟩ := row_two ka; have kb : w2.heap[w.heap.size + 1]? = some (.cells #[.slice B bs.length l, .slice B' bv.length l'] 32 (0, 0)) := keep_blk (hb := hb2) (h := by first | exact kb | (repeat (first | (refine blk_new ?_; (first | rfl | (simp; done) | (simp; omega))) | refine blk_drewN ?_ | refine blk_old ?_))); obtain ⟨kb0, kb1, kbl⟩ := row_two kb; have kr : w2.heap[w.heap.size + 2]? = some (.cells #[.slice none 0 0, .slice none 0 0] 32 (0, 0)) := keep_blk (hb := hb2) (h := by first | exact kr | (repeat (first | (refine blk_new ?_; (first | rfl | (simp; done) | (simp; omega))) | refine blk_drewN ?_ | refine blk_old ?_))); obtain ⟨kr0, kr1, kf0, kf1, krl⟩ := cells_two kr (Below.refl _ _)))
      refine bodyPost_ret (v := .tuple #[.agg #[.slice none 0 0, .slice none 0 0], .int .i64 1]) (by simp [results, Try.results21, go_sem, kr0, kr1]) rfl ?_
      rw [H.out.1, H.out.2, HC.out]
      exact ⟨none, 0, none, 0, rfl, OwnC.nil _ _ _ _, OwnC.nil _ _ _ _, Apart.none _, by repeat (first | exact Below.refl _ _ | assumption | apply bl_alloc | apply bl_drewN | apply Below.drew | (refine bl_set ?_ (by first | exact Nat.le_refl _ | (simp; done) | (simp; omega)) _) | (refine bl_trans ?_ (by assumption)))⟩
    · skip
      have F := jo_facts k0 k1
      obtain ⟨b1, o1, rfl, hbl1, hce1⟩ := HA.out (by rw [ints_len]; omega)
      obtain ⟨b2, o2, rfl, hbl2, hce2⟩ := HB.out (by rw [ints_len]; omega)
      have HC1 := Lib.hid (show ∀ j, j < ar.length → w.cell? ⟨b1, o1 + j, none⟩ = some (.int .i64 (gt ar j)) from fun j hj => by rw [hce1 j (by rw [ints_len]; exact hj), ints_get _ _ hj])
      have HC2 := Lib.hid (show ∀ j, j < bs.length → w.cell? ⟨b2, o2 + j, none⟩ = some (.int .i64 (gt bs j)) from fun j hj => by rw [hce2 j (by rw [ints_len]; exact hj), ints_get _ _ hj])
      have f1 := HC1.out 0 (by omega)
      have f2 := HC2.out 0 (by omega)
      rw [Nat.add_zero] at f1 f2
      have f3 := HC1.out (ar.length - 1) (by omega)
      have f4 := HC2.out (bs.length - 1) (by omega)
      clear hce1 hce2
      obtain ⟨i0, hi, hz0, hz1, hz2⟩ := info_parts infoInt
      go_enter Try.func21, Try.ntmps21
      go_upto_region 3 with (first | (go_at_call 42; (with_reducible refine (l05Ok_any _ (w.heap.size) (some ⟨b1, o1, none⟩) A' k k' ar av (by first | assumption | simp [go_sem]) (by first | assumption | simp [go_sem]) (HA.out.below (by repeat (first | exact Below.refl _ _ | assumption | apply bl_alloc | apply bl_drewN | apply Below.drew | (refine bl_set ?_ (by first | exact Nat.le_refl _ | (simp; done) | (simp; omega)) _) | (refine bl_trans ?_ (by assumption))))) (HA'.out.below (by repeat (first | exact Below.refl _ _ | assumption | apply bl_alloc | apply bl_drewN | apply Below.drew | (refine bl_set ?_ (by first | exact Nat.le_refl _ | (simp; done) | (simp; omega)) _) | (refine bl_trans ?_ (by assumption))))) hm hm').mono ?_); rintro e w1 ⟨rfl, hb1⟩; have ka : w1.heap[w.heap.size]? = some (.cells #[.slice (some ⟨b1, o1, none⟩) ar.length k, .slice A' av.length k'] 32 (0, 0)) := keep_blk (hb := hb1) (h := by first | exact ka | (repeat (first | (refine blk_new ?_; (first | rfl | (simp; done) | (simp; omega))) | refine blk_drewN ?_ | refine blk_old ?_))); obtain ⟨ka0, ka1, kal⟩ := row_two ka; have kb : w1.heap[w.heap.size + 1]? = some (.cells #[.slice (some ⟨b2, o2, none⟩) bs.length l, .slice B' bv.length l'] 32 (0, 0)) := keep_blk (hb := hb1) (h := by first | exact kb | (repeat (first | (refine blk_new ?_; (first | rfl | (simp; done) | (simp; omega))) | refine blk_drewN ?_ | refine blk_old ?_))); obtain ⟨kb0, kb1, kbl⟩ := row_two kb; have kr : w1.heap[w.heap.size + 2]? = some (.cells #[.slice none 0 0, .slice none 0 0] 32 (0, 0)) := keep_blk (hb := hb1) (h := by first | exact kr | (repeat (first | (refine blk_new ?_; (first | rfl | (simp; done) | (simp; omega))) | refine blk_drewN ?_ | refine blk_old ?_))); obtain ⟨kr0, kr1, kf0, kf1, krl⟩ := cells_two kr (Below.refl _ _)) | (go_at_call 42; (with_reducible refine (l05Ok_any _ (w.heap.size + 1) (some ⟨b2, o2, none⟩) B' l l' bs bv (by first | assumption | simp [go_sem]) (by first | assumption | simp [go_sem]) (HB.out.below (by repeat (first | exact Below.refl _ _ | assumption | apply bl_alloc | apply bl_drewN | apply Below.drew | (refine bl_set ?_ (by first | exact Nat.le_refl _ | (simp; done) | (simp; omega)) _) | (refine bl_trans ?_ (by assumption))))) (HB'.out.below (by repeat (first | exact Below.refl _ _ | assumption | apply bl_alloc | apply bl_drewN | apply Below.drew | (refine bl_set ?_ (by first | exact Nat.le_refl _ | (simp; done) | (simp; omega)) _) | (refine bl_trans ?_ (by assumption))))) hn hn').mono ?_); rintro e w2 ⟨rfl, hb2⟩; have ka : w2.heap[w.heap.size]? = some (.cells #[.slice (some ⟨b1, o1, none⟩) ar.length k, .slice A' av.length k'] 32 (0, 0)) := keep_blk (hb := hb2) (h := by first | exact ka | (repeat (first | (refine blk_new ?_; (first | rfl | (simp; done) | (simp; omega))) | refine blk_drewN ?_ | refine blk_old ?_))); obtain ⟨ka0, ka1, kal⟩ := row_two ka; have kb : w2.heap[w.heap.size + 1]? = some (.cells #[.slice (some ⟨b2, o2, none⟩) bs.length l, .slice B' bv.length l'] 32 (0, 0)) := keep_blk (hb := hb2) (h := by first | exact kb | (repeat (first | (refine blk_new ?_; (first | rfl | (simp; done) | (simp; omega))) | refine blk_drewN ?_ | refine blk_old ?_))); obtain ⟨kb0, kb1, kbl⟩ := row_two kb; have kr : w2.heap[w.heap.size + 2]? = some (.cells #[.slice none 0 0, .slice none 0 0] 32 (0, 0)) := keep_blk (hb := hb2) (h := by first | exact kr | (repeat (first | (refine blk_new ?_; (first | rfl | (simp; done) | (simp; omega))) | refine blk_drewN ?_ | refine blk_old ?_))); obtain ⟨kr0, kr1, kf0, kf1, krl⟩ := cells_two kr (Below.refl _ _)))
      have S2 := Lib.hid (show Below w.heap.size w w2 by repeat (first | exact Below.refl _ _ | assumption | apply bl_alloc | apply bl_drewN | apply Below.drew | (refine bl_set ?_ (by first | exact Nat.le_refl _ | (simp; done) | (simp; omega)) _) | (refine bl_trans ?_ (by assumption))))
      have g1 := (S2.out.cell (p := ⟨b1, o1, none⟩) hbl1).trans f1
      have g2 := (S2.out.cell (p := ⟨b2, o2, none⟩) hbl2).trans f2
      have g3 := (S2.out.cell (p := ⟨b1, o1 + (ar.length - 1), none⟩) hbl1).trans f3
      have g4 := (S2.out.cell (p := ⟨b2, o2 + (bs.length - 1), none⟩) hbl2).trans f4
      clear f1 f2 f3 f4
      have MX := fun (w : World) => l00Max_of (show joLo ar bs = mx (gt ar 0) (gt bs 0) from rfl) w
      have MN := fun (w : World) => l00Min_of (show joHi ar bs = mn (gt ar (ar.length - 1)) (gt bs (bs.length - 1)) from rfl) w
      go_quiet ((go_at_call 34; first | with_reducible exact quiet_eq (MX  _) | with_reducible exact quiet_add_eq (MX  _)))
      go_upto_region 4 with fail
      go_cut [7] (fun s7 wx => s7 = .int .i64 (joHi ar bs) ∧ wx.heap[w.heap.size]? = some (.cells #[.slice (some ⟨b1, o1, none⟩) ar.length k, .slice A' av.length k'] 32 (0, 0)) ∧ wx.heap[w.heap.size + 1]? = some (.cells #[.slice (some ⟨b2, o2, none⟩) bs.length l, .slice B' bv.length l'] 32 (0, 0)) ∧ wx.heap[w.heap.size + 2]? = some (.cells #[.slice none 0 0, .slice none 0 0] 32 (0, 0)) ∧ Below w.heap.size w wx)
      case first =>
        go_quiet ((go_at_call 48; first | with_reducible exact quiet_eq (MN  _) | with_reducible exact quiet_add_eq (MN  _)))
        go_wp2_with fail
        go_meet
        exact ⟨rfl, (by repeat (first | exact ka | exact kb | exact kr | refine blk_drewN ?_)), (by repeat (first | exact ka | exact kb | exact kr | refine blk_drewN ?_)), (by repeat (first | exact ka | exact kb | exact kr | refine blk_drewN ?_)), by have s2 := S2.out; repeat (first | exact Below.refl _ _ | assumption | apply bl_alloc | apply bl_drewN | apply Below.drew | (refine bl_set ?_ (by first | exact Nat.le_refl _ | (simp; done) | (simp; omega)) _) | (refine bl_trans ?_ (by assumption)))⟩
      case rest =>
        clear ka kb kr ka0 ka1 kal kb0 kb1 kbl kr0 kr1 kf0 kf1 krl g1 g2 g3 g4 S2 MX MN
        obtain ⟨rfl, ka, kb, kr, s2⟩ := hcut
        obtain ⟨wk, rfl⟩ : ∃ x : World, x = wc := ⟨_, rfl⟩
        have SK := Lib.hid s2
        have HKA := Lib.hid ka
        have HKB := Lib.hid kb
        have HKR := Lib.hid kr
        obtain ⟨ka0, ka1, kal⟩ := row_two ka
        obtain ⟨kb0, kb1, kbl⟩ := row_two kb
        obtain ⟨kr0, kr1, kf0, kf1, krl⟩ := cells_two kr (Below.refl _ _)
        have zkr := krl
        have K0 := Lib.hid k0
        have K1 := Lib.hid k1
        clear k0 k1
        by_cases k2 : joLo ar bs < joHi ar bs
        · go_wp2
          clear s2
          go_loopg [8, 9] ar.length (fun m v i wr => ∃ j X c, j ≤ ar.length ∧ m = ar.length - j ∧ i = .int .i64 (j : Int) ∧ v = .slice X (List.length (joP ar bs j)) c ∧ OwnC wk.heap.size wr.heap.size wr X (ints (joP ar bs j)) ∧ Below wk.heap.size wk wr)
          case atStart => exact ⟨0, some ⟨wk.heap.size, 0, none⟩, 2, Nat.zero_le _, rfl, rfl, rfl, own_pair (Nat.le_refl _), bl_alloc (Below.refl _ _) _⟩
          case round =>
            clear ka kb kr ka0 ka1 kal kb0 kb1 kbl kr0 kr1 kf0 kf1 krl
            obtain ⟨j, X, c, hj, hgj, rfl, rfl, hX, hk⟩ := hrel
            have ka := keep_blk (hb := hk) (h := HKA.out)
            have kb := keep_blk (hb := hk) (h := HKB.out)
            have kr := keep_blk (hb := hk) (h := HKR.out)
            have hb := bl_trans SK.out hk
            obtain ⟨ka0, ka1, kal⟩ := row_two ka
            obtain ⟨kb0, kb1, kbl⟩ := row_two kb
            have HGK := Lib.hid hgj
            have hPl := joP_le ar bs j
            have zk := hk.size
            clear hgj
            by_cases hlt : j < ar.length
            · have fx := (hb.cell (p := ⟨b1, o1 + j, none⟩) hbl1).trans (HC1.out j hlt)
              obtain ⟨y, hy⟩ : ∃ y, y = gt ar j := ⟨_, rfl⟩
              rw [← hy] at fx
              cases hq : inR (gt ar j) (joLo ar bs) (joHi ar bs)
              · have HS := Lib.hid (show joP ar bs (j + 1) = joP ar bs j from pinTo_no hq)
                have HI := Lib.hid (show inR y (joLo ar bs) (joHi ar bs) = false from by rw [hy]; exact hq)
                clear hq hy
                go_wp2_with (go_at_call 40; refine (l00In_b HI.out _).mono ?_; rintro e w' ⟨rfl, rfl⟩)
                go_roundg (ar.length - (j + 1))
                case measure => rw [HGK.out]; omega
                case rel => exact ⟨j + 1, X, c, by omega, rfl, by go_num, by rw [HS.out], by rw [HS.out]; exact hX, hk⟩
              · have HS := Lib.hid (show joP ar bs (j + 1) = puL (joP ar bs j) y from by rw [hy]; exact pinTo_yes hq)
                have HI := Lib.hid (show inR y (joLo ar bs) (joHi ar bs) = true from by rw [hy]; exact hq)
                clear hq hy
                go_wp2_with (first | (go_at_call 40; refine (l00In_b HI.out _).mono ?_; rintro e w' ⟨rfl, rfl⟩) | (go_at_call 49; refine (l00Put_any _ _ _ (joP ar bs j) y hX.rc (by omega)).mono ?_; rintro e w5 ⟨X5, c5, rfl, o5, hb5⟩))
                have z5 := hb5.size
                go_roundg (ar.length - (j + 1))
                case measure => rw [HGK.out]; omega
                case rel => exact ⟨j + 1, X5, c5, by omega, rfl, by go_num, by rw [HS.out], by rw [HS.out]; exact o5.wide (by omega) (Nat.le_refl _), bl_trans hk hb5⟩
            · obtain rfl : j = ar.length := by omega
              go_wp2
              go_loopg [8, 10] bs.length (fun m v i wr => ∃ j X c, j ≤ bs.length ∧ m = bs.length - j ∧ i = .int .i64 (j : Int) ∧ v = .slice X (List.length (joR ar bs j)) c ∧ OwnC wk.heap.size wr.heap.size wr X (ints (joR ar bs j)) ∧ Below wk.heap.size wk wr)
              case atStart => exact ⟨0, X, c, Nat.zero_le _, rfl, rfl, rfl, hX, hk⟩
              case round =>
                clear ka kb kr ka0 ka1 kal kb0 kb1 kbl hX hk hb HGK hPl zk
                obtain ⟨j, X, c, hj, hgj, rfl, rfl, hX, hk⟩ := hrel
                have ka := keep_blk (hb := hk) (h := HKA.out)
                have kb := keep_blk (hb := hk) (h := HKB.out)
                have kr := keep_blk (hb := hk) (h := HKR.out)
                have hb := bl_trans SK.out hk
                obtain ⟨ka0, ka1, kal⟩ := row_two ka
                obtain ⟨kb0, kb1, kbl⟩ := row_two kb
                have HGK := Lib.hid hgj
                have hPl := joR_le ar bs j
                have zk := hk.size
                clear hgj
                by_cases hlt : j < bs.length
                · have fx := (hb.cell (p := ⟨b2, o2 + j, none⟩) hbl2).trans (HC2.out j hlt)
                  obtain ⟨y, hy⟩ : ∃ y, y = gt bs j := ⟨_, rfl⟩
                  rw [← hy] at fx
                  cases hq : inR (gt bs j) (joLo ar bs) (joHi ar bs)
                  · have HS := Lib.hid (show joR ar bs (j + 1) = joR ar bs j from pinTo_no hq)
                    have HI := Lib.hid (show inR y (joLo ar bs) (joHi ar bs) = false from by rw [hy]; exact hq)
                    clear hq hy
                    go_wp2_with (go_at_call 40; refine (l00In_b HI.out _).mono ?_; rintro e w' ⟨rfl, rfl⟩)
                    go_roundg (bs.length - (j + 1))
                    case measure => rw [HGK.out]; omega
                    case rel => exact ⟨j + 1, X, c, by omega, rfl, by go_num, by rw [HS.out], by rw [HS.out]; exact hX, hk⟩
                  · have HS := Lib.hid (show joR ar bs (j + 1) = puL (joR ar bs j) y from by rw [hy]; exact pinTo_yes hq)
                    have HI := Lib.hid (show inR y (joLo ar bs) (joHi ar bs) = true from by rw [hy]; exact hq)
                    clear hq hy
                    go_wp2_with (first | (go_at_call 40; refine (l00In_b HI.out _).mono ?_; rintro e w' ⟨rfl, rfl⟩) | (go_at_call 49; refine (l00Put_any _ _ _ (joR ar bs j) y hX.rc (by omega)).mono ?_; rintro e w5 ⟨X5, c5, rfl, o5, hb5⟩))
                    have z5 := hb5.size
                    go_roundg (bs.length - (j + 1))
                    case measure => rw [HGK.out]; omega
                    case rel => exact ⟨j + 1, X5, c5, by omega, rfl, by go_num, by rw [HS.out], by rw [HS.out]; exact o5.wide (by omega) (Nat.le_refl _), bl_trans hk hb5⟩
                · obtain rfl : j = bs.length := by omega
                  obtain ⟨wq, rfl⟩ : ∃ x : World, x = wr := ⟨_, rfl⟩
                  have JL := Lib.hid (joR_end k2)
                  rw [JL.out] at hX
                  obtain ⟨n, hn1⟩ : ∃ n, n = (joLs ar bs).length := ⟨_, rfl⟩
                  rw [JL.out, ← hn1]
                  have E1 := Lib.hid hn1.symm
                  have HXQ := Lib.hid hX
                  have HKQ := Lib.hid hk
                  have hnl : n ≤ 4001 := by rw [hn1]; exact Nat.le_trans (flTo_len _ _ _) (by omega)
                  have p3 := volAt_bd K0.out (y := joLo ar bs) (by omega) (by omega)
                  have p4 := volAt_bd K1.out (y := joLo ar bs) (by omega) (by omega)
                  have EB := Lib.hid (show volAt ar av (joLo ar bs) + volAt bs bv (joLo ar bs) = joB ar av bs bv from rfl)
                  clear hX hn1
                  go_wp2_with (first | (go_at_call 50; (with_reducible refine (l05Volume_any _ w.heap.size (some ⟨b1, o1, none⟩) A' k k' ar av (joLo ar bs) (by repeat (first | with_reducible assumption | with_reducible refine kc_drew ?_ | with_reducible refine kc_drewN ?_ | with_reducible refine kc_alloc ?_ | with_reducible refine kc_set ?_ (by first | omega | (simp; done) | (simp; omega)))) (by repeat (first | with_reducible assumption | with_reducible refine kc_drew ?_ | with_reducible refine kc_drewN ?_ | with_reducible refine kc_alloc ?_ | with_reducible refine kc_set ?_ (by first | omega | (simp; done) | (simp; omega)))) (HA.out.below (by repeat (first | exact Below.refl _ _ | assumption | apply bl_alloc | apply bl_drewN | apply Below.drew | (refine bl_set ?_ (by first | exact Nat.le_refl _ | (simp; done) | (simp; omega)) _) | (refine bl_trans ?_ (by assumption))))) (HA'.out.below (by repeat (first | exact Below.refl _ _ | assumption | apply bl_alloc | apply bl_drewN | apply Below.drew | (refine bl_set ?_ (by first | exact Nat.le_refl _ | (simp; done) | (simp; omega)) _) | (refine bl_trans ?_ (by assumption))))) K0.out (by omega) (by omega)).mono ?_); rintro e w' ⟨rfl, d8, rfl⟩) | (go_at_call 50; (with_reducible refine (l05Volume_any _ (w.heap.size + 1) (some ⟨b2, o2, none⟩) B' l l' bs bv (joLo ar bs) (by repeat (first | with_reducible assumption | with_reducible refine kc_drew ?_ | with_reducible refine kc_drewN ?_ | with_reducible refine kc_alloc ?_ | with_reducible refine kc_set ?_ (by first | omega | (simp; done) | (simp; omega)))) (by repeat (first | with_reducible assumption | with_reducible refine kc_drew ?_ | with_reducible refine kc_drewN ?_ | with_reducible refine kc_alloc ?_ | with_reducible refine kc_set ?_ (by first | omega | (simp; done) | (simp; omega)))) (HB.out.below (by repeat (first | exact Below.refl _ _ | assumption | apply bl_alloc | apply bl_drewN | apply Below.drew | (refine bl_set ?_ (by first | exact Nat.le_refl _ | (simp; done) | (simp; omega)) _) | (refine bl_trans ?_ (by assumption))))) (HB'.out.below (by repeat (first | exact Below.refl _ _ | assumption | apply bl_alloc | apply bl_drewN | apply Below.drew | (refine bl_set ?_ (by first | exact Nat.le_refl _ | (simp; done) | (simp; omega)) _) | (refine bl_trans ?_ (by assumption))))) K1.out (by omega) (by omega)).mono ?_); rintro e w' ⟨rfl, d9, rfl⟩))
                  rw [EB.out]
                  have EBB : 0 ≤ joB ar av bs bv ∧ joB ar av bs bv ≤ 8002000000000 := by rw [← EB.out]; omega
                  clear p3 p4 ka0 ka1 kal kb0 kb1 kbl ka kb kr
                  go_loopg [13] n (fun m i wr => ∃ j, j ≤ n ∧ m = n - j ∧ i = .int .i64 (j : Int) ∧ (∃ A2 c2, wr.heap[(wq.heap.size + 1)]? = some (.cells #[.slice X n c, .slice A2 j c2] 32 (0, 0)) ∧ Own2 wr wq.heap.size (wq.heap.size + 1) 2 (.slice none 0 0) [] (.slice A2 j c2) (mpTo (joF ar av bs bv) (joLs ar bs) j)) ∧ Below wq.heap.size wq wr)
                  case atStart => exact ⟨0, Nat.zero_le _, rfl, rfl, ⟨some ⟨wq.heap.size, 0, none⟩, 0, by repeat (first | (refine blk_new ?_; (first | rfl | (simp; done) | (simp; omega))) | refine blk_drewN ?_ | refine blk_old ?_), by first | exact own2_nil _ rfl | exact (own2_nil _ rfl).drewN _ | exact ((own2_nil _ rfl).drewN _).drewN _⟩, by repeat (first | exact Below.refl _ _ | assumption | apply bl_alloc | apply bl_drewN | apply Below.drew | (refine bl_set ?_ (by first | exact Nat.le_refl _ | (simp; done) | (simp; omega)) _) | (refine bl_trans ?_ (by assumption)))⟩
                  case round =>
                    obtain ⟨j, hj, hgj, rfl, ⟨A2, c2, kc, hO⟩, hq⟩ := hrel
                    have hk2 := bl_trans HKQ.out hq
                    obtain ⟨x0, x1, xf0, xf1, xl⟩ := cells_two kc (Below.refl _ _)
                    have ka := keep_blk (hb := hk2) (h := HKA.out)
                    have kb := keep_blk (hb := hk2) (h := HKB.out)
                    have kr := keep_blk (hb := hk2) (h := HKR.out)
                    obtain ⟨ka0, ka1, kal⟩ := row_two ka
                    obtain ⟨kb0, kb1, kbl⟩ := row_two kb
                    obtain ⟨kr0, kr1, kf0, kf1, krl⟩ := cells_two kr (Below.refl _ _)
                    have HGK := Lib.hid hgj
                    have HN2 := Lib.hid (mpTo_len (joF ar av bs bv) (joLs ar bs) j)
                    have hb := bl_trans SK.out hk2
                    have zb := hb.size
                    have zq := hq.size
                    clear hgj
                    by_cases hlt : j < n
                    · obtain ⟨y, hy⟩ : ∃ y, y = gt (joLs ar bs) j := ⟨_, rfl⟩
                      have HS2 := Lib.hid (show mpTo (joF ar av bs bv) (joLs ar bs) (j + 1) = mpTo (joF ar av bs bv) (joLs ar bs) j ++ [(volAt ar av y + volAt bs bv y - joB ar av bs bv)] from by rw [hy]; rfl)
                      have hmem : joLo ar bs ≤ y ∧ y ≤ joHi ar bs := by
                        have h := gt_mem (xs := joLs ar bs) (k := j) (by rw [E1.out]; exact hlt)
                        rw [← hy] at h
                        have h2 := (flTo_mem _).1 h
                        omega
                      obtain ⟨bX, curX, TX, rfl, hx1, hx2, hxg, hxc⟩ := HXQ.out (by rw [ints_len, E1.out]; omega)
                      have hlvq : wq.cell? ⟨bX, j, none⟩ = some (.int .i64 y) := by
                        rw [cell_of_row wq bX j _ _ _ hxg, hxc j (by rw [ints_len, E1.out]; exact hlt), ints_get _ _ (by rw [E1.out]; exact hlt), hy]
                      have hlv := cell_b hq hlvq
                      clear hxg hxc hy
                      have p1 := volAt_bd K0.out (y := y) (by omega) (by omega)
                      have p2 := volAt_bd K1.out (y := y) (by omega) (by omega)
                      have W1 : IntKind.i64.wrap (volAt ar av y + volAt bs bv y) = volAt ar av y + volAt bs bv y := IntWalk.i64_in _ (by omega)
                      have W2 : IntKind.i64.wrap (volAt ar av y + volAt bs bv y - joB ar av bs bv) = (volAt ar av y + volAt bs bv y - joB ar av bs bv) := IntWalk.i64_in _ (by omega)
                      clear p1 p2
                      have kq0 : (0 : Int) ≤ (j : Int) := by omega
                      have kq1 : (j : Int) < (n : Int) := by omega
                      go_wp2
                      refine region_cutH (S := fun w' => w'.cell? ⟨(wq.heap.size + 1), 1, none⟩ = some (.slice A2 j c2) ∧ w'.cell? ⟨bX, j, none⟩ = some (.int .i64 y)) 17 (by kernel_rfl) (by kernel_rfl) ?hS1 (fun hHeld => ?hR1)
                      case hS1 => (((try dsimp only); refine ⟨?_, ?_⟩ <;> (repeat (first | with_reducible assumption | with_reducible refine kc_drew ?_ | with_reducible refine kc_drewN ?_ | with_reducible refine kc_alloc ?_ | with_reducible refine kc_set ?_ (by first | omega | (simp; done) | (simp; omega))))))
                      simp only [List.take_succ_cons, List.take_zero, List.drop_succ_cons, List.drop_zero]
                      refine wpAnyH_take (i := 0) (v := ?hv2) rfl (by kernel_rfl) (by kernel_rfl) (by kernel_rfl) (fun _ _ _ h => h) (Or.inl ⟨by rfl, ?hy2⟩) (by assumption) ?hR2
                      case hy2 => (intro wq hSw; (try dsimp only at hSw); go_simp; (try with_reducible rfl))
                      simp only [Act.put, List.setIfInBounds_toArray, List.set_cons_zero, List.set_cons_succ]
                      refine wpAnyH_take (i := 1) (v := ?hv3) rfl (by kernel_rfl) (by kernel_rfl) (by kernel_rfl) (fun _ _ _ h => h) (Or.inl ⟨by rfl, ?hy3⟩) (by assumption) ?hR3
                      case hy3 => (intro wq hSw; (try dsimp only at hSw); go_simp; (try with_reducible rfl))
                      simp only [Act.put, List.setIfInBounds_toArray, List.set_cons_zero, List.set_cons_succ]
                      refine wpAnyH_take (i := 2) (v := ?hv4) rfl (by kernel_rfl) (by kernel_rfl) (by kernel_rfl) (fun _ _ _ h => h) (Or.inl ⟨by rfl, ?hy4⟩) (by assumption) ?hR4
                      case hy4 => (intro wq hSw; (try dsimp only at hSw); go_simp; (try with_reducible rfl))
                      simp only [Act.put, List.setIfInBounds_toArray, List.set_cons_zero, List.set_cons_succ]
                      refine wpAnyH_take (i := 3) (v := ?hv5) rfl (by kernel_rfl) (by kernel_rfl) (by kernel_rfl) (fun _ _ _ h => h) (Or.inl ⟨by rfl, ?hy5⟩) (by assumption) ?hR5
                      case hy5 => (intro wq hSw; (try dsimp only at hSw); go_simp; (try with_reducible rfl))
                      simp only [Act.put, List.setIfInBounds_toArray, List.set_cons_zero, List.set_cons_succ]
                      refine wpAnyH_take (i := 4) (v := ?hv6) rfl (by kernel_rfl) (by kernel_rfl) (by kernel_rfl) (fun _ _ _ h => h) (Or.inl ⟨by rfl, ?hy6⟩) (by assumption) ?hR6
                      case hy6 => (intro wq hSw; (try dsimp only at hSw); go_simp; (try with_reducible rfl))
                      simp only [Act.put, List.setIfInBounds_toArray, List.set_cons_zero, List.set_cons_succ]
                      refine wpAnyH_take (i := 5) (v := ?hv7) rfl (by kernel_rfl) (by kernel_rfl) (by kernel_rfl) (fun _ _ _ h => h) (Or.inl ⟨by rfl, ?hy7⟩) (by assumption) ?hR7
                      case hy7 => (intro wq hSw; (try dsimp only at hSw); go_simp; (try with_reducible rfl))
                      simp only [Act.put, List.setIfInBounds_toArray, List.set_cons_zero, List.set_cons_succ]
                      refine wpAnyH_take (i := 7) (v := ?hv8) rfl (by kernel_rfl) (by kernel_rfl) (by kernel_rfl) (fun _ _ _ h => h) (Or.inl ⟨by rfl, ?hy8⟩) (by assumption) ?hR8
                      case hy8 => (intro wq hSw; (try dsimp only at hSw); go_simp; (try with_reducible rfl))
                      simp only [Act.put, List.setIfInBounds_toArray, List.set_cons_zero, List.set_cons_succ]
                      refine wpAnyH_take (i := 8) (v := ?hv9) rfl (by kernel_rfl) (by kernel_rfl) (by kernel_rfl) (fun _ _ _ h => h) (Or.inl ⟨by rfl, ?hy9⟩) (by assumption) ?hR9
                      case hy9 => (intro wq hSw; (try dsimp only at hSw); go_simp; (try with_reducible rfl))
                      simp only [Act.put, List.setIfInBounds_toArray, List.set_cons_zero, List.set_cons_succ]
                      refine wpAnyH_take (i := 9) (v := ?hv10) rfl (by kernel_rfl) (by kernel_rfl) (by kernel_rfl) (fun _ _ _ h => h) (Or.inl ⟨by rfl, ?hy10⟩) (by assumption) ?hR10
                      case hy10 => (intro wq hSw; (try dsimp only at hSw); go_simp; (try with_reducible rfl))
                      simp only [Act.put, List.setIfInBounds_toArray, List.set_cons_zero, List.set_cons_succ]
                      refine wpAnyH_take (i := 10) (v := ?hv11) rfl (by kernel_rfl) (by kernel_rfl) (by kernel_rfl) (fun _ _ _ h => h) (Or.inl ⟨by rfl, ?hy11⟩) (by assumption) ?hR11
                      case hy11 => (intro wq hSw; (try dsimp only at hSw); go_simp; (try with_reducible rfl))
                      simp only [Act.put, List.setIfInBounds_toArray, List.set_cons_zero, List.set_cons_succ]
                      refine wpAnyH_take (i := 13) (v := ?hv12) rfl (by kernel_rfl) (by kernel_rfl) (by kernel_rfl) (fun _ _ _ h => h) (Or.inl ⟨by rfl, ?hy12⟩) (by assumption) ?hR12
                      case hy12 => (intro wq hSw; (try dsimp only at hSw); go_simp; (try with_reducible rfl))
                      simp only [Act.put, List.setIfInBounds_toArray, List.set_cons_zero, List.set_cons_succ]
                      refine wpAnyH_ready (rs := [6]) (by kernel_rfl) (by simp) (AllReadyH.cons rfl (fun K hK => ?hR13) AllReadyH.nil)
                      go_simp
                      (go_at_call 50; (with_reducible refine (l05Volume_any _ w.heap.size (some ⟨b1, o1, none⟩) A' k k' ar av y (by repeat (first | with_reducible assumption | with_reducible refine kc_drew ?_ | with_reducible refine kc_drewN ?_ | with_reducible refine kc_alloc ?_ | with_reducible refine kc_set ?_ (by first | omega | (simp; done) | (simp; omega)))) (by repeat (first | with_reducible assumption | with_reducible refine kc_drew ?_ | with_reducible refine kc_drewN ?_ | with_reducible refine kc_alloc ?_ | with_reducible refine kc_set ?_ (by first | omega | (simp; done) | (simp; omega)))) (HA.out.below (by repeat (first | exact Below.refl _ _ | assumption | apply bl_alloc | apply bl_drewN | apply Below.drew | (refine bl_set ?_ (by first | exact Nat.le_refl _ | (simp; done) | (simp; omega)) _) | (refine bl_trans ?_ (by assumption))))) (HA'.out.below (by repeat (first | exact Below.refl _ _ | assumption | apply bl_alloc | apply bl_drewN | apply Below.drew | (refine bl_set ?_ (by first | exact Nat.le_refl _ | (simp; done) | (simp; omega)) _) | (refine bl_trans ?_ (by assumption))))) K0.out (by omega) (by omega)).mono ?_); rintro e w6 ⟨rfl, d6, hw6⟩; have t6 : Below wr.heap.size wr w6 := (by rw [hw6]; repeat (first | exact Below.refl _ _ | assumption | apply bl_alloc | apply bl_drewN | apply Below.drew | (refine bl_set ?_ (by first | exact Nat.le_refl _ | (simp; done) | (simp; omega)) _) | (refine bl_trans ?_ (by assumption)))); clear hw6; have x1_6 := cell_b t6 x1; have hlv_6 := cell_b t6 hlv; have ka0_6 := cell_b t6 ka0; have ka1_6 := cell_b t6 ka1; have kb0_6 := cell_b t6 kb0; have kb1_6 := cell_b t6 kb1; have hbb_6 := bl_trans hb t6)
                      (try go_wp2_with fail)
                      clear hHeld
                      refine hK.out _ _ ?hS13 (fun hHeld => ?hT13)
                      case hS13 => (((try dsimp only); refine ⟨?_, ?_⟩ <;> (repeat (first | with_reducible assumption | with_reducible refine kc_drew ?_ | with_reducible refine kc_drewN ?_ | with_reducible refine kc_alloc ?_ | with_reducible refine kc_set ?_ (by first | omega | (simp; done) | (simp; omega))))))
                      clear hK K
                      (try simp only [Act.put, List.setIfInBounds_toArray, List.set_cons_zero, List.set_cons_succ])
                      refine wpAnyH_ready (rs := [11]) (by kernel_rfl) (by simp) (AllReadyH.cons rfl (fun K hK => ?hR14) AllReadyH.nil)
                      go_simp
                      (go_at_call 50; (with_reducible refine (l05Volume_any _ (w.heap.size + 1) (some ⟨b2, o2, none⟩) B' l l' bs bv y (by repeat (first | with_reducible assumption | with_reducible refine kc_drew ?_ | with_reducible refine kc_drewN ?_ | with_reducible refine kc_alloc ?_ | with_reducible refine kc_set ?_ (by first | omega | (simp; done) | (simp; omega)))) (by repeat (first | with_reducible assumption | with_reducible refine kc_drew ?_ | with_reducible refine kc_drewN ?_ | with_reducible refine kc_alloc ?_ | with_reducible refine kc_set ?_ (by first | omega | (simp; done) | (simp; omega)))) (HB.out.below (by repeat (first | exact Below.refl _ _ | assumption | apply bl_alloc | apply bl_drewN | apply Below.drew | (refine bl_set ?_ (by first | exact Nat.le_refl _ | (simp; done) | (simp; omega)) _) | (refine bl_trans ?_ (by assumption))))) (HB'.out.below (by repeat (first | exact Below.refl _ _ | assumption | apply bl_alloc | apply bl_drewN | apply Below.drew | (refine bl_set ?_ (by first | exact Nat.le_refl _ | (simp; done) | (simp; omega)) _) | (refine bl_trans ?_ (by assumption))))) K1.out (by omega) (by omega)).mono ?_); rintro e w7 ⟨rfl, d7, hw7⟩; have t7 : Below wr.heap.size wr w7 := (by rw [hw7]; repeat (first | exact Below.refl _ _ | assumption | apply bl_alloc | apply bl_drewN | apply Below.drew | (refine bl_set ?_ (by first | exact Nat.le_refl _ | (simp; done) | (simp; omega)) _) | (refine bl_trans ?_ (by assumption)))); clear hw7; have x1_7 := cell_b t7 x1; have hlv_7 := cell_b t7 hlv; have ka0_7 := cell_b t7 ka0; have ka1_7 := cell_b t7 ka1; have kb0_7 := cell_b t7 kb0; have kb1_7 := cell_b t7 kb1; have hbb_7 := bl_trans hb t7)
                      (try go_wp2_with fail)
                      clear hHeld
                      refine hK.out _ _ ?hS14 (fun hHeld => ?hT14)
                      case hS14 => (((try dsimp only); refine ⟨?_, ?_⟩ <;> (repeat (first | with_reducible assumption | with_reducible refine kc_drew ?_ | with_reducible refine kc_drewN ?_ | with_reducible refine kc_alloc ?_ | with_reducible refine kc_set ?_ (by first | omega | (simp; done) | (simp; omega))))))
                      clear hK K
                      (try simp only [Act.put, List.setIfInBounds_toArray, List.set_cons_zero, List.set_cons_succ])
                      refine wpAnyH_take (i := 12) (v := ?hv15) rfl (by kernel_rfl) (by kernel_rfl) (by kernel_rfl) (fun _ _ _ h => h) (Or.inl ⟨by rfl, ?hy15⟩) (by assumption) ?hR15
                      case hy15 => (intro wq hSw; (try dsimp only at hSw); go_simp; (try with_reducible rfl))
                      simp only [Act.put, List.setIfInBounds_toArray, List.set_cons_zero, List.set_cons_succ]
                      refine wpAnyH_take (i := 14) (v := ?hv16) rfl (by kernel_rfl) (by kernel_rfl) (by kernel_rfl) (fun _ _ _ h => h) (Or.inl ⟨by rfl, ?hy16⟩) (by assumption) ?hR16
                      case hy16 => (intro wq hSw; (try dsimp only at hSw); go_simp; (try with_reducible rfl))
                      simp only [Act.put, List.setIfInBounds_toArray, List.set_cons_zero, List.set_cons_succ]
                      refine wpAnyH_ready (rs := [15]) (by kernel_rfl) (by simp) (AllReadyH.cons rfl (fun K hK => ?hR17) AllReadyH.nil)
                      go_simp
                      clear hHeld
                      refine hK.out _ _ ?hS17 (fun hHeld => ?hT17)
                      case hS17 => (((try dsimp only); refine ⟨?_, ?_⟩ <;> (repeat (first | with_reducible assumption | with_reducible refine kc_drew ?_ | with_reducible refine kc_drewN ?_ | with_reducible refine kc_alloc ?_ | with_reducible refine kc_set ?_ (by first | omega | (simp; done) | (simp; omega))))))
                      clear hK K
                      (try simp only [Act.put, List.setIfInBounds_toArray, List.set_cons_zero, List.set_cons_succ])
                      refine wpAnyH_ready (rs := [16]) (by kernel_rfl) (by simp) (AllReadyH.cons rfl (fun K hK => ?hR18) AllReadyH.nil)
                      have O7 := Lib.hid (hO.below t7)
                      have K7 := keep_blk (hb := t7) (h := kc)
                      have z7 := t7.size
                      refine step_append_lies _ (by rfl) _ _ _ (by rfl) wq.heap.size 2 i0 (.int .i64 0) 1 8 Try.underlying22 hi hz0 hz1 hz2 rfl (by decide) (.slice A2 j c2) j (ints (mpTo (joF ar av bs bv) (joLs ar bs) j)) (by rfl) ((O7.out.bn HN2.out).alloc _) ⟨w7.heap.size, 0, none⟩ 1 1 [.int .i64 (volAt ar av y + volAt bs bv y - joB ar av bs bv)] (by rfl) (by rfl) (app_news (heap_alloc_new w7 _)) (app_one _) (by decide) (by unfold maxLen; omega) (by omega) (by simp; omega) (w7.heap.size + 1) (by simp) ?_
                      intro g2 cap2 w8 hown8 hgrow8 hat8 hlt8
                      have kc8 := (O7.out.alloc (.cells #[.int .i64 (volAt ar av y + volAt bs bv y - joB ar av bs bv)] 2)).keepR hgrow8 (blk_old K7) (.inl rfl)
                      obtain ⟨u0, u1, uf0, uf1, ul⟩ := cells_two kc8 (Below.refl _ _)
                      have O8 := Lib.hid ((O7.out.alloc (.cells #[.int .i64 (volAt ar av y + volAt bs bv y - joB ar av bs bv)] 2)).rightN HN2.out hown8 hgrow8 hat8 (by simp) HS2.out)
                      have R8 := Lib.hid ((O7.out.alloc (.cells #[.int .i64 (volAt ar av y + volAt bs bv y - joB ar av bs bv)] 2)).belowR (bl_alloc (bl_trans hq t7) _) (Nat.le_refl _) hgrow8)
                      have hlv_8 := cell_b R8.out hlvq
                      clear hown8 hgrow8 hat8 hlt8
                      clear hHeld
                      refine hK.out _ _ ?hS18 (fun hHeld => ?hT18)
                      case hS18 => (((try dsimp only); refine ⟨?_, ?_⟩ <;> (repeat (first | with_reducible assumption | with_reducible refine kc_drew ?_ | with_reducible refine kc_drewN ?_ | with_reducible refine kc_alloc ?_ | with_reducible refine kc_set ?_ (by first | omega | (simp; done) | (simp; omega))))))
                      clear hK K
                      (try simp only [Act.put, List.setIfInBounds_toArray, List.set_cons_zero, List.set_cons_succ])
                      refine wpAnyH_done (by kernel_rfl) ?hR19 _
                      show wpList _ _ _ _ _ _
                      clear W1 W2 kq0 kq1
                      go_wp2
                      go_roundg (n - (j + 1))
                      case measure => rw [HGK.out]; omega
                      case rel => exact ⟨j + 1, by omega, rfl, by go_num, ⟨some ⟨g2, 0, none⟩, cap2, heap_setCell_same _ _ 1 _ _ _ kc8, O8.out.set 1 _⟩, by have r2 := R8.out; repeat (first | exact Below.refl _ _ | assumption | apply bl_alloc | apply bl_drewN | apply Below.drew | (refine bl_set ?_ (by first | exact Nat.le_refl _ | (simp; done) | (simp; omega)) _) | (refine bl_trans ?_ (by assumption)))⟩
                    · obtain rfl : j = n := by omega
                      have E2 := Lib.hid (show (joVs ar av bs bv).length = j from by unfold joVs; rw [List.length_map]; exact E1.out)
                      have HU := Lib.hid (show mpTo (joF ar av bs bv) (joLs ar bs) j = joVs ar av bs bv from by rw [← E1.out]; exact mpTo_map _ _)
                      obtain ⟨_, ob, _⟩ := hO.endsN rfl HN2.out
                      rw [HU.out] at ob
                      have oa := HXQ.out.below hq
                      have HVC := Lib.hid (fun (v : Bool) (hv : curveOk (joLs ar bs) (joVs ar av bs bv) = v) => (by
                        have h := l05Ok_any wr (wq.heap.size + 1) X A2 c c2 (joLs ar bs) (joVs ar av bs bv) (by rw [E1.out]; exact x0) (by rw [E2.out]; exact x1) oa.rc ob.rc (by rw [E1.out]; omega) (by rw [E2.out]; omega)
                        rw [hv] at h
                        exact h : Calls Try.prog 42 #[.pointer (some ⟨(wq.heap.size + 1), 0, none⟩)] wr fun e w' => e = .returned (.bool v) ∧ Below wr.heap.size wr w'))
                      cases k5 : curveOk (joLs ar bs) (joVs ar av bs bv)
                      · have HV := HVC.out _ k5
                        have HC := Lib.hid (jo_bad4 K0.out K1.out k2 k5)
                        have H := Lib.hid (jo_no HC.out (by omega))
                        go_wp2_with (go_at_call 42; refine HV.mono ?_; rintro e w5 ⟨rfl, hb5⟩; have kr5 : w5.heap[w.heap.size + 2]? = some (.cells #[.slice none 0 0, .slice none 0 0] 32 (0, 0)) := keep_blk (hb := hb5) (h := kr); obtain ⟨z0, z1, zf0, zf1, zl⟩ := cells_two kr5 (Below.refl _ _); have kc5 := keep_blk (hb := hb5) (h := kc); obtain ⟨y0, y1, yf0, yf1, yl⟩ := cells_two kc5 (Below.refl _ _))
                        refine bodyPost_ret (v := .tuple #[.agg #[.slice none 0 0, .slice none 0 0], .int .i64 5]) (by simp [results, Try.results21, go_sem, z0, z1]) rfl ?_
                        rw [H.out.1, H.out.2, HC.out]
                        exact ⟨none, 0, none, 0, rfl, OwnC.nil _ _ _ _, OwnC.nil _ _ _ _, Apart.none _, by repeat (first | exact Below.refl _ _ | assumption | apply bl_alloc | apply bl_drewN | apply Below.drew | (refine bl_set ?_ (by first | exact Nat.le_refl _ | (simp; done) | (simp; omega)) _) | (refine bl_trans ?_ (by assumption)))⟩
                      · have CO := curveOk_of k5
                        have HC := Lib.hid (jo_ok K0.out K1.out k2 k5)
                        have H := Lib.hid (jo_yes HC.out)
                        have HV := HVC.out _ k5
                        go_wp2_with (go_at_call 42; refine HV.mono ?_; rintro e w5 ⟨rfl, hb5⟩; have kr5 : w5.heap[w.heap.size + 2]? = some (.cells #[.slice none 0 0, .slice none 0 0] 32 (0, 0)) := keep_blk (hb := hb5) (h := kr); obtain ⟨z0, z1, zf0, zf1, zl⟩ := cells_two kr5 (Below.refl _ _); have kc5 := keep_blk (hb := hb5) (h := kc); obtain ⟨y0, y1, yf0, yf1, yl⟩ := cells_two kc5 (Below.refl _ _))
                        refine bodyPost_ret (v := .tuple #[.agg #[.slice X j c, .slice A2 j c2], .int .i64 0]) (by simp [results, Try.results21, go_sem, z0, z1]) rfl ?_
                        rw [H.out.1, H.out.2, HC.out]
                        have z5 := hb5.size
                        have zk9 := HKQ.out.size
                        have apx := apart_far oa ob (by rw [ints_len]; omega) (by rw [ints_len]; omega)
                        exact ⟨_, _, _, _, by rw [E1.out, E2.out], (((oa.below (hb5.mono zq)).far (.inl (by simp; omega)) _).far (.inl (by simp; omega)) _).wide (by omega) (by simp; omega), (((ob.below hb5).far (.inl (by simp; omega)) _).far (.inl (by simp; omega)) _).wide (by omega) (by simp; omega), apx, by repeat (first | exact Below.refl _ _ | assumption | apply bl_alloc | apply bl_drewN | apply Below.drew | (refine bl_set ?_ (by first | exact Nat.le_refl _ | (simp; done) | (simp; omega)) _) | (refine bl_trans ?_ (by assumption)))⟩
        · skip
          have HC := Lib.hid (jo_bad3 K0.out K1.out k2)
          have H := Lib.hid (jo_no HC.out (by omega))
          go_wp2
          refine bodyPost_ret (v := .tuple #[.agg #[.slice none 0 0, .slice none 0 0], .int .i64 9]) (by simp [results, Try.results21, go_sem, kr0, kr1]) rfl ?_
          rw [H.out.1, H.out.2, HC.out]
          exact ⟨none, 0, none, 0, rfl, OwnC.nil _ _ _ _, OwnC.nil _ _ _ _, Apart.none _, by repeat (first | exact Below.refl _ _ | assumption | apply bl_alloc | apply bl_drewN | apply Below.drew | (refine bl_set ?_ (by first | exact Nat.le_refl _ | (simp; done) | (simp; omega)) _) | (refine bl_trans ?_ (by assumption)))⟩
end Go.Proofs.Ytcgnnlgakfndaaa
