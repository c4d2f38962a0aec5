/-
  Contract on reading a land: the program. It holds for every text of at most 1048576 bytes, where a table and two variables of the library read as they are laid.
-/
import Derived.IntWalk
import Derived.Test.YtcjfdfjimcapkaaDoorReadL
import Derived.Test.YtcjfdfjimcapkaaDoorNums
import Derived.Test.YtcjfdfjimcapkaaDoorLtImpl
import Derived.Test.YtcjfdfjimcapkaaDoorShelf6
import Derived.Test.YtcjfdfjimcapkaaDoorCut
import Derived.Deep.RegionHeld3
namespace Go.Proofs.YtcjfdfjimcapkaaDoor
set_option linter.unusedVariables false
set_option linter.unusedSimpArgs false
open Go.RowKit

theorem cnt_byte (l : List UInt8) : (spl 10 l).length - 1 = Lib.countByte l 10 := by
  have h : ∀ l : List UInt8, (spl 10 l).length = Lib.countByte l 10 + 1 := by
    intro l
    induction l with
    | nil => rfl
    | cons c r ih =>
      unfold Lib.countByte at ih ⊢
      by_cases h : c = 10
      · subst h
        rw [spl, if_pos rfl, List.length_cons, ih, List.count_cons_self]
      · rw [spl, if_neg h, List.count_cons_of_ne (by simpa using h), ← ih]
        cases hs : spl 10 r with
        | nil => exact absurd hs (spl_ne 10 r)
        | cons y s => rfl
  rw [h l]
  rfl
theorem spans_le (p : Nat → Bool) (s : ByteArray) : ∀ (f pos : Nat) (st : Option Nat) (acc : List (Nat × Nat)), (Lib.closeSpans s (Lib.spansFromP p s f pos st acc)).length ≤ acc.length + f + (if st.isSome then 1 else 0)
  | 0, pos, st, acc => by
    unfold Lib.spansFromP Lib.closeSpans
    cases st <;> simp
  | f + 1, pos, st, acc => by
    unfold Lib.spansFromP
    split
    · split
      · cases st with
        | none => have := spans_le p s f (pos + (Utf8.decode s pos).2) none acc; simp at this ⊢; omega
        | some a =>
          have := spans_le p s f (pos + (Utf8.decode s pos).2) none (acc ++ [(a, pos)])
          simp at this ⊢
          omega
      · cases st with
        | none => have := spans_le p s f (pos + (Utf8.decode s pos).2) (some pos) acc; simp at this ⊢; omega
        | some a => have := spans_le p s f (pos + (Utf8.decode s pos).2) (some a) acc; simp at this ⊢; omega
    · unfold Lib.closeSpans
      cases st <;> simp <;> omega
theorem nums_le (l : List UInt8) : (nums l).length ≤ l.length := by
  have h : (pcs l).length ≤ l.length := by
    unfold pcs Lib.goFieldsP Lib.spansOfP
    rw [List.length_map, List.length_map]
    have := spans_le sepR ⟨l.toArray⟩ (ByteArray.size ⟨l.toArray⟩) 0 none []
    have hs : (⟨l.toArray⟩ : ByteArray).size = l.length := by simp [ByteArray.size]
    rw [hs] at this
    simp at this
    rw [hs]
    exact this
  unfold nums
  split
  · simpa using h
  · simp
set_option maxRecDepth 100000 in
set_option maxHeartbeats 1600000 in
theorem implReadL (w : World) (l : List UInt8) (B : Nat) (t1 t2 : TypeId) (p1 p2 : Value) (hm : l.length ≤ 1048576) (hR : Rdy B t1 t2 p1 p2 w) : Calls Tryd.prog 17 #[.string ⟨l.toArray⟩] w (NewLandB (rdR l) (rdC l) (rdH l) (rlB l) w) := by
  have HRD := Lib.hid hR
  clear hR
  obtain ⟨N, hN⟩ : ∃ N, nums l = N := ⟨_, rfl⟩
  obtain ⟨R, hRc⟩ : ∃ R, cnt l = R := ⟨_, rfl⟩
  have HNN := Lib.hid hN
  have HCN := Lib.hid hRc
  have HCT := Lib.hid (fun W : World => (by
    have h := Tryd.strings_Count_one ⟨l.toArray⟩ 10 W
    rw [show Lib.countByte (⟨l.toArray⟩ : ByteArray).data.toList 10 = R by rw [← hRc, cnt, cnt_byte]] at h
    exact h : Calls Tryd.prog 38 #[.string ⟨l.toArray⟩, .string ⟨#[10]⟩] W fun e w' => e = .returned (.int .i64 (R : Int)) ∧ w' = W))
  have HNM := Lib.hid (fun (W : World) (h : Rdy B t1 t2 p1 p2 W) => (by rw [← hN]; exact implNumbers W l B t1 t2 p1 p2 hm h : Calls Tryd.prog 24 #[.string ⟨l.toArray⟩] W (NewNums N W)))
  have hnl : N.length ≤ l.length := by rw [← hN]; exact nums_le l
  have hRl : R ≤ l.length := by
    have := spl_len 10 l
    rw [← hRc, cnt]
    omega
  have HIC := Lib.hid (il_rl l)
  clear hN hRc
  by_cases hR0 : R = 0
  · have H := Lib.hid (show rlB l = false by rw [← HIC.out, ilB, HCN.out, hR0]; rfl)
    have HD := Lib.hid (rld_no H.out)
    subst hR0
    go_enter Tryd.func17, Tryd.ntmps17
    go_wp2_with (first | (go_at_call 38; refine (HCT.out _).mono ?_; rintro e w1 ⟨rfl, rfl⟩) | (go_at_call 24; refine (HNM.out _ (HRD.out.below (by repeat (first | exact Below.refl _ _ | assumption | apply bl_alloc | apply bl_drewN | apply Below.drew | (refine bl_set ?_ (by first | exact Nat.le_refl _ | (simp; done) | (simp; omega)) _) | (refine bl_trans ?_ (by assumption)))))).mono ?_; rintro e w2 ⟨A, c0, rfl, hc0, hn0, hown, hb2⟩; have kr2 : w2.heap[w.heap.size]? = some (.cells #[.int .i64 0, .int .i64 0, .slice none 0 0] 38 (0, 0)) := keep_blk (hb := hb2) (h := heap_alloc_new w _); obtain ⟨r0, r1, r2, rl⟩ := row_three kr2; obtain ⟨rf0, rf1, rf2⟩ := frz3 kr2))
    have K9 := heap_setCell_same _ _ 2 _ _ (.slice none 0 0) (heap_setCell_same _ _ 1 _ _ (.int .i64 0) (heap_setCell_same _ _ 0 _ _ (.int .i64 0) kr2))
    obtain ⟨q0, q1, q2, _⟩ := row_three (blk_old (o' := .cells #[.int .i64 0, .int .i64 0, .slice A N.length c0] 38) (show _ = some (Obj.cells #[.int .i64 0, .int .i64 0, .slice none 0 0] 38 (0, 0)) from K9))
    refine bodyPost_ret (v := .tuple #[.agg #[.int .i64 0, .int .i64 0, .slice none 0 0], .bool false]) (by simp [results, Tryd.results17, go_sem, q0, q1, q2]) rfl ?_
    rw [H.out, HD.out.1, HD.out.2.1, HD.out.2.2]
    exact ⟨none, 0, rfl, OwnC.nil _ _ _ _, by repeat (first | exact Below.refl _ _ | assumption | apply bl_alloc | apply bl_drewN | apply Below.drew | (refine bl_set ?_ (by first | exact Nat.le_refl _ | (simp; done) | (simp; omega)) _) | (refine bl_trans ?_ (by assumption)))⟩
  · have hr1 : ((R : Int) == 0) = false := by simp; omega
    go_enter Tryd.func17, Tryd.ntmps17
    go_wp2_with (first | (go_at_call 38; refine (HCT.out _).mono ?_; rintro e w1 ⟨rfl, rfl⟩) | (go_at_call 24; refine (HNM.out _ (HRD.out.below (by repeat (first | exact Below.refl _ _ | assumption | apply bl_alloc | apply bl_drewN | apply Below.drew | (refine bl_set ?_ (by first | exact Nat.le_refl _ | (simp; done) | (simp; omega)) _) | (refine bl_trans ?_ (by assumption)))))).mono ?_; rintro e w2 ⟨A, c0, rfl, hc0, hn0, hown, hb2⟩; have kr2 : w2.heap[w.heap.size]? = some (.cells #[.int .i64 0, .int .i64 0, .slice none 0 0] 38 (0, 0)) := keep_blk (hb := hb2) (h := heap_alloc_new w _); obtain ⟨r0, r1, r2, rl⟩ := row_three kr2; obtain ⟨rf0, rf1, rf2⟩ := frz3 kr2))
    obtain ⟨q, hq⟩ : ∃ q, N.length / R = q := ⟨_, rfl⟩
    have hqw : IntKind.i64.wrap ((N.length : Int) / (R : Int)) = (q : Int) := by
      rw [← Int.natCast_ediv, hq]
      have := Nat.div_le_self N.length R
      exact IntWalk.i64_in _ (by omega)
    have HQ := Lib.hid (show ilC l = q by rw [ilC, HNN.out, HCN.out, hq])
    have HO := Lib.hid hown
    have K2 : (w2.alloc (.cells #[.int .i64 (R : Int), .int .i64 0, .slice A N.length c0] 38 (0, 0))).heap[w2.heap.size]? = some (.cells #[.int .i64 (R : Int), .int .i64 0, .slice A N.length c0] 38 (0, 0)) := heap_alloc_new _ _
    have K3 := Lib.hid (show (w2.alloc (.cells #[.int .i64 (R : Int), .int .i64 (q : Int), .slice A N.length c0] 38 (0, 0))).drew.heap[w2.heap.size]? = some (.cells #[.int .i64 (R : Int), .int .i64 (q : Int), .slice A N.length c0] 38 (0, 0)) from blk_drew (heap_alloc_new _ _))
    have kr3 := Lib.hid (show (w2.alloc (.cells #[.int .i64 (R : Int), .int .i64 (q : Int), .slice A N.length c0] 38 (0, 0))).drew.heap[w.heap.size]? = some (.cells #[.int .i64 0, .int .i64 0, .slice none 0 0] 38 (0, 0)) from blk_drew (blk_old kr2))
    have HIC2 := Lib.hid (show rlB l = (landOk (R : Int) (q : Int) N && decide (ltText (R : Int) (q : Int) N = l)) by rw [← HIC.out, ilB, HQ.out, HNN.out, HCN.out]; simp [hR0])
    have HVC := Lib.hid (fun (b : Bool) (hv : landOk (R : Int) (q : Int) N = b) (W : World) (hW : Below w2.heap.size w2 W) => (by
      have h := implValidLand W (R : Int) (q : Int) A c0 N (HO.out.rc.below hW) (by omega)
      rw [hv] at h
      exact h : Calls Tryd.prog 40 #[.agg #[.int .i64 (R : Int), .int .i64 (q : Int), .slice A N.length c0]] W fun e w' => e = .returned (.bool b) ∧ Below W.heap.size W w'))
    have HTC := Lib.hid (fun (tx : List UInt8) (hx : ltText (R : Int) (q : Int) N = tx) (W : World) (hW : Below w2.heap.size w2 W) => (by
      have hRW := HRD.out.below ((show Below w.heap.size w w2 by repeat (first | exact Below.refl _ _ | assumption | apply bl_alloc | apply bl_drewN | apply Below.drew | (refine bl_set ?_ (by first | exact Nat.le_refl _ | (simp; done) | (simp; omega)) _) | (refine bl_trans ?_ (by assumption)))).trans (hW.mono (by have := hb2.size; simp at this; omega)))
      have h := implLandText W (R : Int) (q : Int) A c0 N B hRW.hb hRW.pow (HO.out.rc.below hW) (by omega) hc0
      rw [hx] at h
      exact h : Calls Tryd.prog 41 #[.agg #[.int .i64 (R : Int), .int .i64 (q : Int), .slice A N.length c0]] W fun e w' => e = .returned (.string ⟨tx.toArray⟩) ∧ Below W.heap.size W w'))
    obtain ⟨x0, x1, x2, xl⟩ := row_three K2
    obtain ⟨xf0, xf1, xf2⟩ := frz3 K2
    clear hown hc0 hq
    cases hv : landOk (R : Int) (q : Int) N
    · have HV5 := HVC.out _ hv
      have H := Lib.hid (show rlB l = false by rw [HIC2.out, hv]; rfl)
      have HD := Lib.hid (rld_no H.out)
      clear hv
      refine region_cutH (S := fun w' => w'.cell? ⟨w2.heap.size, 0, none⟩ = some (.int .i64 (R : Int)) ∧ w'.cell? ⟨w2.heap.size, 2, none⟩ = some (.slice A N.length c0)) 6 (by kernel_rfl) (by kernel_rfl) ?hS57 (fun hHeld => ?hR57)
      case hS57 => (((try dsimp only); refine ⟨?_, ?_⟩ <;> (repeat (first | with_reducible assumption | with_reducible refine kc_drew ?_ | with_reducible refine kc_drewN ?_ | with_reducible refine kc_alloc ?_ | with_reducible refine kc_set ?_ (by first | omega | (simp; done) | (simp; omega))))))
      simp only [List.take_succ_cons, List.take_zero, List.drop_succ_cons, List.drop_zero]
      refine wpAnyH_take (i := 0) (v := ?hv58) rfl (by kernel_rfl) (by kernel_rfl) (by kernel_rfl) (fun _ _ _ h => h) (Or.inl ⟨by rfl, ?hy58⟩) (by assumption) ?hR58
      case hy58 => (intro wq hSw; (try dsimp only at hSw); go_simp; (try with_reducible rfl))
      simp only [Act.put, List.setIfInBounds_toArray, List.set_cons_zero, List.set_cons_succ]
      refine wpAnyH_take (i := 1) (v := ?hv59) rfl (by kernel_rfl) (by kernel_rfl) (by kernel_rfl) (fun _ _ _ h => h) (Or.inl ⟨by rfl, ?hy59⟩) (by assumption) ?hR59
      case hy59 => (intro wq hSw; (try dsimp only at hSw); go_simp; (try with_reducible rfl))
      simp only [Act.put, List.setIfInBounds_toArray, List.set_cons_zero, List.set_cons_succ]
      refine wpAnyH_take (i := 3) (v := ?hv60) rfl (by kernel_rfl) (by kernel_rfl) (by kernel_rfl) (fun _ _ _ h => h) (Or.inl ⟨by rfl, ?hy60⟩) (by assumption) ?hR60
      case hy60 => (intro wq hSw; (try dsimp only at hSw); go_simp; (try with_reducible rfl))
      simp only [Act.put, List.setIfInBounds_toArray, List.set_cons_zero, List.set_cons_succ]
      refine wpAnyH_take (i := 4) (v := ?hv61) rfl (by kernel_rfl) (by kernel_rfl) (by kernel_rfl) (fun _ _ _ h => h) (Or.inl ⟨by rfl, ?hy61⟩) (by assumption) ?hR61
      case hy61 => (intro wq hSw; (try dsimp only at hSw); go_simp; (try with_reducible rfl))
      simp only [Act.put, List.setIfInBounds_toArray, List.set_cons_zero, List.set_cons_succ]
      refine wpAnyH_ready (rs := [2]) (by kernel_rfl) (by simp) (AllReadyH.cons rfl (fun K hK => ?hR62) AllReadyH.nil)
      go_simp
      (go_at_call 39; refine (size_any _ _ _ _).mono ?_; rintro e w' ⟨rfl, rfl⟩)
      (try go_wp2_with fail)
      clear hHeld
      refine hK.out _ _ ?hS62 (fun hHeld => ?hT62)
      case hS62 => (((try dsimp only); refine ⟨?_, ?_⟩ <;> (repeat (first | with_reducible assumption | with_reducible refine kc_drew ?_ | with_reducible refine kc_drewN ?_ | with_reducible refine kc_alloc ?_ | with_reducible refine kc_set ?_ (by first | omega | (simp; done) | (simp; omega))))))
      clear hK K
      (try simp only [Act.put, List.setIfInBounds_toArray, List.set_cons_zero, List.set_cons_succ])
      refine wpAnyH_ready (rs := [5]) (by kernel_rfl) (by simp) (AllReadyH.cons rfl (fun K hK => ?hR63) AllReadyH.nil)
      go_simp
      clear hHeld
      refine hK.out _ _ ?hS63 (fun hHeld => ?hT63)
      case hS63 => (((try dsimp only); refine ⟨?_, ?_⟩ <;> (repeat (first | with_reducible assumption | with_reducible refine kc_drew ?_ | with_reducible refine kc_drewN ?_ | with_reducible refine kc_alloc ?_ | with_reducible refine kc_set ?_ (by first | omega | (simp; done) | (simp; omega))))))
      clear hK K
      (try simp only [Act.put, List.setIfInBounds_toArray, List.set_cons_zero, List.set_cons_succ])
      refine wpAnyH_done (by kernel_rfl) ?hR64 _
      show wpList _ _ _ _ _ _
      go_wp2_with (go_at_call 40; refine (HV5 _ (by repeat (first | exact Below.refl _ _ | assumption | apply bl_alloc | apply bl_drewN | apply Below.drew | (refine bl_set ?_ (by first | exact Nat.le_refl _ | (simp; done) | (simp; omega)) _) | (refine bl_trans ?_ (by assumption))))).mono ?_; rintro e w4 ⟨rfl, hb4⟩; have kb4 := keep_blk (hb := hb4) (h := K3.out); have kr4 := keep_blk (hb := hb4) (h := kr3.out); obtain ⟨x0, x1, x2, xl⟩ := row_three kb4; obtain ⟨q0, q1, q2, ql⟩ := row_three kr4; obtain ⟨qf0, qf1, qf2⟩ := frz3 kr4)
      refine bodyPost_ret (v := .tuple #[.agg #[.int .i64 0, .int .i64 0, .slice none 0 0], .bool false]) (by simp [results, Tryd.results17, go_sem, q0, q1, q2]) rfl ?_
      rw [H.out, HD.out.1, HD.out.2.1, HD.out.2.2]
      exact ⟨none, 0, rfl, OwnC.nil _ _ _ _, by repeat (first | exact Below.refl _ _ | assumption | apply bl_alloc | apply bl_drewN | apply Below.drew | (refine bl_set ?_ (by first | exact Nat.le_refl _ | (simp; done) | (simp; omega)) _) | (refine bl_trans ?_ (by assumption)))⟩
    · have HV5 := HVC.out _ hv
      by_cases ht : ltText (R : Int) (q : Int) N = l
      · have H := Lib.hid (show rlB l = true by rw [HIC2.out, hv, ht]; simp)
        have HS := Lib.hid (il_same H.out)
        have HT5 := HTC.out l ht
        clear hv ht
        refine region_cutH (S := fun w' => w'.cell? ⟨w2.heap.size, 0, none⟩ = some (.int .i64 (R : Int)) ∧ w'.cell? ⟨w2.heap.size, 2, none⟩ = some (.slice A N.length c0)) 6 (by kernel_rfl) (by kernel_rfl) ?hS65 (fun hHeld => ?hR65)
        case hS65 => (((try dsimp only); refine ⟨?_, ?_⟩ <;> (repeat (first | with_reducible assumption | with_reducible refine kc_drew ?_ | with_reducible refine kc_drewN ?_ | with_reducible refine kc_alloc ?_ | with_reducible refine kc_set ?_ (by first | omega | (simp; done) | (simp; omega))))))
        simp only [List.take_succ_cons, List.take_zero, List.drop_succ_cons, List.drop_zero]
        refine wpAnyH_take (i := 0) (v := ?hv66) rfl (by kernel_rfl) (by kernel_rfl) (by kernel_rfl) (fun _ _ _ h => h) (Or.inl ⟨by rfl, ?hy66⟩) (by assumption) ?hR66
        case hy66 => (intro wq hSw; (try dsimp only at hSw); go_simp; (try with_reducible rfl))
        simp only [Act.put, List.setIfInBounds_toArray, List.set_cons_zero, List.set_cons_succ]
        refine wpAnyH_take (i := 1) (v := ?hv67) rfl (by kernel_rfl) (by kernel_rfl) (by kernel_rfl) (fun _ _ _ h => h) (Or.inl ⟨by rfl, ?hy67⟩) (by assumption) ?hR67
        case hy67 => (intro wq hSw; (try dsimp only at hSw); go_simp; (try with_reducible rfl))
        simp only [Act.put, List.setIfInBounds_toArray, List.set_cons_zero, List.set_cons_succ]
        refine wpAnyH_take (i := 3) (v := ?hv68) rfl (by kernel_rfl) (by kernel_rfl) (by kernel_rfl) (fun _ _ _ h => h) (Or.inl ⟨by rfl, ?hy68⟩) (by assumption) ?hR68
        case hy68 => (intro wq hSw; (try dsimp only at hSw); go_simp; (try with_reducible rfl))
        simp only [Act.put, List.setIfInBounds_toArray, List.set_cons_zero, List.set_cons_succ]
        refine wpAnyH_take (i := 4) (v := ?hv69) rfl (by kernel_rfl) (by kernel_rfl) (by kernel_rfl) (fun _ _ _ h => h) (Or.inl ⟨by rfl, ?hy69⟩) (by assumption) ?hR69
        case hy69 => (intro wq hSw; (try dsimp only at hSw); go_simp; (try with_reducible rfl))
        simp only [Act.put, List.setIfInBounds_toArray, List.set_cons_zero, List.set_cons_succ]
        refine wpAnyH_ready (rs := [2]) (by kernel_rfl) (by simp) (AllReadyH.cons rfl (fun K hK => ?hR70) AllReadyH.nil)
        go_simp
        (go_at_call 39; refine (size_any _ _ _ _).mono ?_; rintro e w' ⟨rfl, rfl⟩)
        (try go_wp2_with fail)
        clear hHeld
        refine hK.out _ _ ?hS70 (fun hHeld => ?hT70)
        case hS70 => (((try dsimp only); refine ⟨?_, ?_⟩ <;> (repeat (first | with_reducible assumption | with_reducible refine kc_drew ?_ | with_reducible refine kc_drewN ?_ | with_reducible refine kc_alloc ?_ | with_reducible refine kc_set ?_ (by first | omega | (simp; done) | (simp; omega))))))
        clear hK K
        (try simp only [Act.put, List.setIfInBounds_toArray, List.set_cons_zero, List.set_cons_succ])
        refine wpAnyH_ready (rs := [5]) (by kernel_rfl) (by simp) (AllReadyH.cons rfl (fun K hK => ?hR71) AllReadyH.nil)
        go_simp
        clear hHeld
        refine hK.out _ _ ?hS71 (fun hHeld => ?hT71)
        case hS71 => (((try dsimp only); refine ⟨?_, ?_⟩ <;> (repeat (first | with_reducible assumption | with_reducible refine kc_drew ?_ | with_reducible refine kc_drewN ?_ | with_reducible refine kc_alloc ?_ | with_reducible refine kc_set ?_ (by first | omega | (simp; done) | (simp; omega))))))
        clear hK K
        (try simp only [Act.put, List.setIfInBounds_toArray, List.set_cons_zero, List.set_cons_succ])
        refine wpAnyH_done (by kernel_rfl) ?hR72 _
        show wpList _ _ _ _ _ _
        go_wp2_with (first | (go_at_call 40; refine (HV5 _ (by repeat (first | exact Below.refl _ _ | assumption | apply bl_alloc | apply bl_drewN | apply Below.drew | (refine bl_set ?_ (by first | exact Nat.le_refl _ | (simp; done) | (simp; omega)) _) | (refine bl_trans ?_ (by assumption))))).mono ?_; rintro e w4 ⟨rfl, hb4⟩; have kb4 := keep_blk (hb := hb4) (h := K3.out); have kr4 := keep_blk (hb := hb4) (h := kr3.out); obtain ⟨x0, x1, x2, xl⟩ := row_three kb4; obtain ⟨q0, q1, q2, ql⟩ := row_three kr4; obtain ⟨qf0, qf1, qf2⟩ := frz3 kr4) | (go_at_call 41; refine (HT5 _ (by repeat (first | exact Below.refl _ _ | assumption | apply bl_alloc | apply bl_drewN | apply Below.drew | (refine bl_set ?_ (by first | exact Nat.le_refl _ | (simp; done) | (simp; omega)) _) | (refine bl_trans ?_ (by assumption))))).mono ?_; rintro e w5 ⟨rfl, hb5⟩; have kb5 := keep_blk (hb := hb5) (h := kb4); have kr5 := keep_blk (hb := hb5) (h := kr4); obtain ⟨x0, x1, x2, xl⟩ := row_three kb5; obtain ⟨q0, q1, q2, ql⟩ := row_three kr5; obtain ⟨qf0, qf1, qf2⟩ := frz3 kr5))
        refine bodyPost_ret (v := .tuple #[.agg #[.int .i64 (R : Int), .int .i64 (q : Int), .slice A N.length c0], .bool true]) (by simp [results, Tryd.results17, go_sem, q0, q1, q2]) rfl ?_
        rw [H.out, ← HS.out.1, ← HS.out.2.1, ← HS.out.2.2, HCN.out, HQ.out, HNN.out]
        have z2 := hb2.size
        have z4 := hb4.size
        have z5 := hb5.size
        simp at z2 z4
        exact ⟨_, _, rfl, ((((HO.out.below (show Below w2.heap.size w2 w5 by repeat (first | exact Below.refl _ _ | assumption | apply bl_alloc | apply bl_drewN | apply Below.drew | (refine bl_set ?_ (by first | exact Nat.le_refl _ | (simp; done) | (simp; omega)) _) | (refine bl_trans ?_ (by assumption))))).far (.inl (by first | omega | (simp; done) | (simp; omega))) _).far (.inl (by first | omega | (simp; done) | (simp; omega))) _).far (.inl (by first | omega | (simp; done) | (simp; omega))) _).wide (by first | omega | (simp; done) | (simp; omega)) (by first | omega | (simp; done) | (simp; omega)), by repeat (first | exact Below.refl _ _ | assumption | apply bl_alloc | apply bl_drewN | apply Below.drew | (refine bl_set ?_ (by first | exact Nat.le_refl _ | (simp; done) | (simp; omega)) _) | (refine bl_trans ?_ (by assumption)))⟩
      · obtain ⟨tx, hx⟩ : ∃ tx, ltText (R : Int) (q : Int) N = tx := ⟨_, rfl⟩
        have H := Lib.hid (show rlB l = false by rw [HIC2.out, hv]; simp [ht])
        have HD := Lib.hid (rld_no H.out)
        have HT5 := HTC.out tx hx
        rw [hx] at ht
        have ht3 : (tx == l) = false := by simpa using ht
        clear hv hx ht
        refine region_cutH (S := fun w' => w'.cell? ⟨w2.heap.size, 0, none⟩ = some (.int .i64 (R : Int)) ∧ w'.cell? ⟨w2.heap.size, 2, none⟩ = some (.slice A N.length c0)) 6 (by kernel_rfl) (by kernel_rfl) ?hS73 (fun hHeld => ?hR73)
        case hS73 => (((try dsimp only); refine ⟨?_, ?_⟩ <;> (repeat (first | with_reducible assumption | with_reducible refine kc_drew ?_ | with_reducible refine kc_drewN ?_ | with_reducible refine kc_alloc ?_ | with_reducible refine kc_set ?_ (by first | omega | (simp; done) | (simp; omega))))))
        simp only [List.take_succ_cons, List.take_zero, List.drop_succ_cons, List.drop_zero]
        refine wpAnyH_take (i := 0) (v := ?hv74) rfl (by kernel_rfl) (by kernel_rfl) (by kernel_rfl) (fun _ _ _ h => h) (Or.inl ⟨by rfl, ?hy74⟩) (by assumption) ?hR74
        case hy74 => (intro wq hSw; (try dsimp only at hSw); go_simp; (try with_reducible rfl))
        simp only [Act.put, List.setIfInBounds_toArray, List.set_cons_zero, List.set_cons_succ]
        refine wpAnyH_take (i := 1) (v := ?hv75) rfl (by kernel_rfl) (by kernel_rfl) (by kernel_rfl) (fun _ _ _ h => h) (Or.inl ⟨by rfl, ?hy75⟩) (by assumption) ?hR75
        case hy75 => (intro wq hSw; (try dsimp only at hSw); go_simp; (try with_reducible rfl))
        simp only [Act.put, List.setIfInBounds_toArray, List.set_cons_zero, List.set_cons_succ]
        refine wpAnyH_take (i := 3) (v := ?hv76) rfl (by kernel_rfl) (by kernel_rfl) (by kernel_rfl) (fun _ _ _ h => h) (Or.inl ⟨by rfl, ?hy76⟩) (by assumption) ?hR76
        case hy76 => (intro wq hSw; (try dsimp only at hSw); go_simp; (try with_reducible rfl))
        simp only [Act.put, List.setIfInBounds_toArray, List.set_cons_zero, List.set_cons_succ]
        refine wpAnyH_take (i := 4) (v := ?hv77) rfl (by kernel_rfl) (by kernel_rfl) (by kernel_rfl) (fun _ _ _ h => h) (Or.inl ⟨by rfl, ?hy77⟩) (by assumption) ?hR77
        case hy77 => (intro wq hSw; (try dsimp only at hSw); go_simp; (try with_reducible rfl))
        simp only [Act.put, List.setIfInBounds_toArray, List.set_cons_zero, List.set_cons_succ]
        refine wpAnyH_ready (rs := [2]) (by kernel_rfl) (by simp) (AllReadyH.cons rfl (fun K hK => ?hR78) AllReadyH.nil)
        go_simp
        (go_at_call 39; refine (size_any _ _ _ _).mono ?_; rintro e w' ⟨rfl, rfl⟩)
        (try go_wp2_with fail)
        clear hHeld
        refine hK.out _ _ ?hS78 (fun hHeld => ?hT78)
        case hS78 => (((try dsimp only); refine ⟨?_, ?_⟩ <;> (repeat (first | with_reducible assumption | with_reducible refine kc_drew ?_ | with_reducible refine kc_drewN ?_ | with_reducible refine kc_alloc ?_ | with_reducible refine kc_set ?_ (by first | omega | (simp; done) | (simp; omega))))))
        clear hK K
        (try simp only [Act.put, List.setIfInBounds_toArray, List.set_cons_zero, List.set_cons_succ])
        refine wpAnyH_ready (rs := [5]) (by kernel_rfl) (by simp) (AllReadyH.cons rfl (fun K hK => ?hR79) AllReadyH.nil)
        go_simp
        clear hHeld
        refine hK.out _ _ ?hS79 (fun hHeld => ?hT79)
        case hS79 => (((try dsimp only); refine ⟨?_, ?_⟩ <;> (repeat (first | with_reducible assumption | with_reducible refine kc_drew ?_ | with_reducible refine kc_drewN ?_ | with_reducible refine kc_alloc ?_ | with_reducible refine kc_set ?_ (by first | omega | (simp; done) | (simp; omega))))))
        clear hK K
        (try simp only [Act.put, List.setIfInBounds_toArray, List.set_cons_zero, List.set_cons_succ])
        refine wpAnyH_done (by kernel_rfl) ?hR80 _
        show wpList _ _ _ _ _ _
        go_wp2_with (first | (go_at_call 40; refine (HV5 _ (by repeat (first | exact Below.refl _ _ | assumption | apply bl_alloc | apply bl_drewN | apply Below.drew | (refine bl_set ?_ (by first | exact Nat.le_refl _ | (simp; done) | (simp; omega)) _) | (refine bl_trans ?_ (by assumption))))).mono ?_; rintro e w4 ⟨rfl, hb4⟩; have kb4 := keep_blk (hb := hb4) (h := K3.out); have kr4 := keep_blk (hb := hb4) (h := kr3.out); obtain ⟨x0, x1, x2, xl⟩ := row_three kb4; obtain ⟨q0, q1, q2, ql⟩ := row_three kr4; obtain ⟨qf0, qf1, qf2⟩ := frz3 kr4) | (go_at_call 41; refine (HT5 _ (by repeat (first | exact Below.refl _ _ | assumption | apply bl_alloc | apply bl_drewN | apply Below.drew | (refine bl_set ?_ (by first | exact Nat.le_refl _ | (simp; done) | (simp; omega)) _) | (refine bl_trans ?_ (by assumption))))).mono ?_; rintro e w5 ⟨rfl, hb5⟩; have kb5 := keep_blk (hb := hb5) (h := kb4); have kr5 := keep_blk (hb := hb5) (h := kr4); obtain ⟨x0, x1, x2, xl⟩ := row_three kb5; obtain ⟨q0, q1, q2, ql⟩ := row_three kr5; obtain ⟨qf0, qf1, qf2⟩ := frz3 kr5))
        refine bodyPost_ret (v := .tuple #[.agg #[.int .i64 0, .int .i64 0, .slice none 0 0], .bool false]) (by simp [results, Tryd.results17, go_sem, q0, q1, q2]) rfl ?_
        rw [H.out, HD.out.1, HD.out.2.1, HD.out.2.2]
        exact ⟨none, 0, rfl, OwnC.nil _ _ _ _, by repeat (first | exact Below.refl _ _ | assumption | apply bl_alloc | apply bl_drewN | apply Below.drew | (refine bl_set ?_ (by first | exact Nat.le_refl _ | (simp; done) | (simp; omega)) _) | (refine bl_trans ?_ (by assumption)))⟩

end Go.Proofs.YtcjfdfjimcapkaaDoor
