/-
  Contracts of the levels that rise fast: the program's function with its closure, and the reference's. They hold for every list of at most 1048576 numbers.
-/
import Derived.Test.YtgcgbhecpgeheaaLists
namespace Go.Proofs.Ytgcgbhecpgeheaa
open Go.RowKit

set_option maxHeartbeats 800000 in
theorem rises1_any (i p q : Nat) (W : World) (A : Option Addr) (c : Nat) (zs : List Int) (y : Int) (hp : W.cell? ⟨p, 0, none⟩ = some (.slice A zs.length c)) (hq : W.cell? ⟨q, 0, none⟩ = some (.int .i64 y))
    (hA : RC W A (ints zs)) (hi : i < zs.length) (hm : zs.length ≤ 1048576) (hz : ∀ i, i < zs.length → -2000 ≤ gt zs i ∧ gt zs i ≤ 2000) :
    Calls Try.prog 68 #[.int .i64 (i : Int), .pointer (some ⟨p, 0, none⟩), .pointer (some ⟨q, 0, none⟩)] W fun e w' => e = .returned (.bool (risesP zs y i)) ∧ ∃ d, w' = W.drewN d := by
  obtain ⟨b, off, rfl, hbl, hcell⟩ := hA (by rw [ints_len]; omega)
  rcases i with _ | j
  · have H := Lib.hid (risesP_zero zs y)
    clear hcell hz
    go_enter Try.func68, Try.ntmps68
    go_wp2
    go_quiet (fail)
    go_wp2
    go_ret
    exact ⟨ret_bool H.out.symm, _, rfl⟩
  · have h1 := hcell (j + 1) (by rw [ints_len]; exact hi)
    have h2 := hcell j (by rw [ints_len]; omega)
    rw [ints_get zs _ hi] at h1
    rw [ints_get zs j (by omega)] at h2
    have b1 := hz (j + 1) hi
    have b2 := hz j (by omega)
    have hpos : (0 : Int) < (j : Int) + 1 := by omega
    clear hcell hz
    by_cases hy : y ≤ gt zs (j + 1) - gt zs j
    · have H := Lib.hid (risesP_yes (zs := zs) (by' := y) (i := j + 1) (by omega) hy)
      go_enter Try.func68, Try.ntmps68
      go_wp2
      go_quiet (fail)
      go_wp2
      go_ret
      exact ⟨ret_bool (by first | exact H.out.symm | (rw [H.out]; simpa using hy)), _, rfl⟩
    · have H := Lib.hid (risesP_no (zs := zs) (by' := y) (i := j + 1) hy)
      go_enter Try.func68, Try.ntmps68
      go_wp2
      go_quiet (fail)
      go_wp2
      go_ret
      exact ⟨ret_bool (by first | exact H.out.symm | (rw [H.out]; simpa using hy)), _, rfl⟩
set_option maxHeartbeats 800000 in
theorem idxRises (w : World) (p q : Nat) (A : Option Addr) (c : Nat) (zs : List Int) (y : Int) (hp : w.cell? ⟨p, 0, none⟩ = some (.slice A zs.length c)) (hq : w.cell? ⟨q, 0, none⟩ = some (.int .i64 y)) (hpl : p < w.heap.size) (hql : q < w.heap.size) (hA : RC w A (ints zs)) (hm : zs.length ≤ 1048576) (hz : ∀ i, i < zs.length → -2000 ≤ gt zs i ∧ gt zs i ≤ 2000) :
    Calls Try.prog 67 #[.int .i64 (zs.length : Int), .func (.func 68) #[] #[.pointer (some ⟨p, 0, none⟩), .pointer (some ⟨q, 0, none⟩)]] w (NewInts (idxTo (risesP zs y) zs.length) w) := by
  have HA := Lib.hid hA
  have HP := Lib.hid hp
  have HQ := Lib.hid hq
  have HZ := Lib.hid hz
  clear hA hp hq hz
  obtain ⟨i0, hi, hz0, hz1, hz2⟩ := info_parts infoInt
  go_enter Try.func67, Try.ntmps67
  go_wp2
  go_loopg [5, 6] zs.length (fun m v i wr => AppRel 2 (idxTo (risesP zs y)) zs.length w m i v wr)
  case atStart => exact ⟨0, Nat.zero_le _, by omega, rfl, own_lit _ (Below.refl _ _), bl_alloc (Below.refl _ _) _⟩
  case round =>
    obtain ⟨k, hk, hgk, rfl, hown, hb⟩ := hrel
    have HGK := Lib.hid hgk
    clear hgk
    have hlen := idxTo_len (risesP zs y) k
    by_cases hlt : k < zs.length
    · skip
      cases hq : (risesP zs y) k
      · have HS := Lib.hid (idxTo_no hq)
        go_wp2_with (go_at_call 68; refine (rises1_any _ p q _ A c zs y ((hb.cell (p := ⟨p, 0, none⟩) hpl).trans HP.out) ((hb.cell (p := ⟨q, 0, none⟩) hql).trans HQ.out) (HA.out.below hb) hlt hm HZ.out).mono ?_; rintro e w' ⟨rfl, d, rfl⟩)
        go_roundg (zs.length - (k + 1))
        case measure => rw [HGK.out]; omega
        case rel => exact ⟨k + 1, by omega, rfl, by go_num, by rw [HS.out]; exact own_dr hown _, bl_drewN hb _⟩
      · have HS := Lib.hid (idxTo_yes hq)
        go_wp2_with (first | (go_at_call 68; refine (rises1_any _ p q _ A c zs y ((hb.cell (p := ⟨p, 0, none⟩) hpl).trans HP.out) ((hb.cell (p := ⟨q, 0, none⟩) hql).trans HQ.out) (HA.out.below hb) hlt hm HZ.out).mono ?_; rintro e w' ⟨rfl, d, rfl⟩) | (at_builtin; refine wpList_append_own _ rfl _ _ 30 rfl w.heap.size 2 i0 (.int .i64 0) 1 8 Try.underlying30 hi hz0 hz1 hz2 rfl (by decide) _ _ _ rfl ((own_dr hown _).alloc _) ⟨wr.heap.size, 0, none⟩ 1 1 [.int .i64 (k : Int)] rfl rfl (by first | exact app_news (heap_alloc_new _ _) | exact app_news (heap_alloc_new wr _)) (app_one _) (by have := hlen; unfold maxLen; omega) (by have := hlen; omega) (by have := hb.size; simp; omega) ?_; intro v' w1 hown' hgrow _))
        have R1 := Lib.hid (app_own hown' HS.out)
        have R2 := Lib.hid (app_below (bl_alloc (bl_drewN hb _) _) ((own_dr hown _).alloc _) hgrow)
        go_roundg (zs.length - (k + 1))
        case measure => rw [HGK.out]; omega
        case rel => exact ⟨k + 1, by omega, rfl, by go_num, R1.out, R2.out⟩
    · obtain rfl : k = zs.length := by omega
      go_wp2
      go_ret
      exact new_end hown hb
set_option maxHeartbeats 800000 in
theorem implRises (w : World) (A : Option Addr) (c : Nat) (zs : List Int) (y : Int) (hA : RC w A (ints zs)) (hm : zs.length ≤ 1048576) :
    Calls Try.prog 30 #[.slice A zs.length c, .int .i64 y] w (NewIntsC (risesL zs y) (risesC zs y) w) := by
  have HA := Lib.hid hA
  clear hA
  cases k0 : gaugesOk zs
  · have H := Lib.hid (rises_bad1 (by' := y) k0)
    go_enter Try.func30, Try.ntmps30
    go_wp2_with (first | (go_at_call 66; refine (areGauges_any _ _ _ _ (HA.out.below (by repeat (first | exact Below.refl _ _ | assumption | apply bl_alloc | apply bl_drewN | apply Below.drew | (refine bl_set ?_ (by first | exact Nat.le_refl _ | (simp; done) | (simp; omega)) _) | (refine bl_trans ?_ (by assumption))))) hm).mono ?_; rintro e w' ⟨rfl, rfl⟩) | (go_at_call 50; refine (in_any _ _ _ _).mono ?_; rintro e w' ⟨rfl, rfl⟩))
    go_ret2
    rw [H.out.1, H.out.2]
    exact newC_nil _ _ _ _ (by repeat (first | exact Below.refl _ _ | assumption | apply bl_alloc | apply bl_drewN | apply Below.drew | (refine bl_set ?_ (by first | exact Nat.le_refl _ | (simp; done) | (simp; omega)) _) | (refine bl_trans ?_ (by assumption))))
  · cases k1 : inR y 1 4000
    · have H := Lib.hid (rises_bad2 (zs := zs) k1)
      go_enter Try.func30, Try.ntmps30
      go_wp2_with (first | (go_at_call 66; refine (areGauges_any _ _ _ _ (HA.out.below (by repeat (first | exact Below.refl _ _ | assumption | apply bl_alloc | apply bl_drewN | apply Below.drew | (refine bl_set ?_ (by first | exact Nat.le_refl _ | (simp; done) | (simp; omega)) _) | (refine bl_trans ?_ (by assumption))))) hm).mono ?_; rintro e w' ⟨rfl, rfl⟩) | (go_at_call 50; refine (in_any _ _ _ _).mono ?_; rintro e w' ⟨rfl, rfl⟩))
      go_ret2
      rw [H.out.1, H.out.2]
      exact newC_nil _ _ _ _ (by repeat (first | exact Below.refl _ _ | assumption | apply bl_alloc | apply bl_drewN | apply Below.drew | (refine bl_set ?_ (by first | exact Nat.le_refl _ | (simp; done) | (simp; omega)) _) | (refine bl_trans ?_ (by assumption))))
    · have H := Lib.hid (rises_ok k0 k1)
      have HZ := Lib.hid (gaugesOk_of k0).2
      go_enter Try.func30, Try.ntmps30
      go_wp2_with (first | (go_at_call 66; refine (areGauges_any _ _ _ _ (HA.out.below (by repeat (first | exact Below.refl _ _ | assumption | apply bl_alloc | apply bl_drewN | apply Below.drew | (refine bl_set ?_ (by first | exact Nat.le_refl _ | (simp; done) | (simp; omega)) _) | (refine bl_trans ?_ (by assumption))))) hm).mono ?_; rintro e w' ⟨rfl, rfl⟩) | (go_at_call 50; refine (in_any _ _ _ _).mono ?_; rintro e w' ⟨rfl, rfl⟩) | (go_at_call 55; go_in) | (go_at_call 67; refine (idxRises _ w.heap.size (w.heap.size + 1) A c zs y (by simp [go_sem]) (by simp [go_sem]) (by first | (simp; done) | (simp; omega)) (by first | (simp; done) | (simp; omega)) (HA.out.below (by repeat (first | exact Below.refl _ _ | assumption | apply bl_alloc | apply bl_drewN | apply Below.drew | (refine bl_set ?_ (by first | exact Nat.le_refl _ | (simp; done) | (simp; omega)) _) | (refine bl_trans ?_ (by assumption))))) hm HZ.out).mono ?_; rintro e w1 ⟨A1, c1, rfl, ho, hb⟩))
      go_ret2
      rw [H.out.1, H.out.2]
      exact newC_of ho (by repeat (first | exact Below.refl _ _ | assumption | apply bl_alloc | apply bl_drewN | apply Below.drew | (refine bl_set ?_ (by first | exact Nat.le_refl _ | (simp; done) | (simp; omega)) _) | (refine bl_trans ?_ (by assumption)))) hb
set_option maxHeartbeats 1600000 in
theorem specRises (w : World) (A : Option Addr) (c : Nat) (zs : List Int) (y : Int) (hA : RC w A (ints zs)) (hm : zs.length ≤ 1048576) :
    Calls Try.prog 29 #[.slice A zs.length c, .int .i64 y] w (NewIntsC (risesL zs y) (risesC zs y) w) := by
  have HA := Lib.hid hA
  clear hA
  cases k0 : gaugesOk zs
  · have H := Lib.hid (rises_bad1 (by' := y) k0)
    have hc := lvlCode_false k0
    go_enter Try.func29, Try.ntmps29
    go_wp2_with (first | (go_at_call 65; refine (l02List_any _ _ _ _ HA.out hm).mono ?_; rintro e w' ⟨rfl, rfl⟩) | (go_at_call 51; refine (l00In_any _ _ _ _).mono ?_; rintro e w' ⟨rfl, rfl⟩))
    go_ret2
    rw [H.out.1, H.out.2]
    exact newC_nil _ _ _ _ (by repeat (first | exact Below.refl _ _ | assumption | apply bl_alloc | apply bl_drewN | apply Below.drew | (refine bl_set ?_ (by first | exact Nat.le_refl _ | (simp; done) | (simp; omega)) _) | (refine bl_trans ?_ (by assumption))))
  · have hc := lvlCode_true k0
    cases k1 : inR y 1 4000
    · have H := Lib.hid (rises_bad2 (zs := zs) k1)
      go_enter Try.func29, Try.ntmps29
      go_wp2_with (first | (go_at_call 65; refine (l02List_any _ _ _ _ HA.out hm).mono ?_; rintro e w' ⟨rfl, rfl⟩) | (go_at_call 51; refine (l00In_any _ _ _ _).mono ?_; rintro e w' ⟨rfl, rfl⟩))
      go_ret2
      rw [H.out.1, H.out.2]
      exact newC_nil _ _ _ _ (by repeat (first | exact Below.refl _ _ | assumption | apply bl_alloc | apply bl_drewN | apply Below.drew | (refine bl_set ?_ (by first | exact Nat.le_refl _ | (simp; done) | (simp; omega)) _) | (refine bl_trans ?_ (by assumption))))
    · have H := Lib.hid (rises_ok k0 k1)
      have HZ := Lib.hid (gaugesOk_of k0).2
      obtain ⟨i0, hi, hz0, hz1, hz2⟩ := info_parts infoInt
      go_enter Try.func29, Try.ntmps29
      go_wp2_with (first | (go_at_call 65; refine (l02List_any _ _ _ _ HA.out hm).mono ?_; rintro e w' ⟨rfl, rfl⟩) | (go_at_call 51; refine (l00In_any _ _ _ _).mono ?_; rintro e w' ⟨rfl, rfl⟩))
      go_loopg [7, 8] zs.length (fun m v i wr => ∃ k, 1 ≤ k ∧ (k ≤ zs.length ∨ k = 1) ∧ m = zs.length - (k - 1) ∧ i = .int .i64 (k : Int) ∧ wr.ownsRow w.heap.size 2 1 v (idxTo (risesP zs y) k).length (ints (idxTo (risesP zs y) k)) ∧ Below w.heap.size w wr)
      case atStart => exact ⟨1, by omega, .inr rfl, by omega, rfl, by rw [idx_one]; exact own_lit _ (Below.refl _ _), bl_alloc (Below.refl _ _) _⟩
      case round =>
        obtain ⟨k, hk1, hk, hgk, rfl, hown, hb⟩ := hrel
        obtain ⟨j, rfl⟩ : ∃ j, k = j + 1 := ⟨k - 1, by omega⟩
        have HGK := Lib.hid hgk
        clear hgk
        have hlen := idxTo_len (risesP zs y) (j + 1)
        by_cases hlt : j + 1 < zs.length
        · obtain ⟨b, off, rfl, hbl, hcell⟩ := HA.out (by rw [ints_len]; omega)
          have h1 := (hb.cell (p := ⟨b, off + (j + 1), none⟩) hbl).trans (hcell (j + 1) (by rw [ints_len]; exact hlt))
          have h2 := (hb.cell (p := ⟨b, off + j, none⟩) hbl).trans (hcell j (by rw [ints_len]; omega))
          rw [ints_get zs _ hlt] at h1
          rw [ints_get zs j (by omega)] at h2
          have b1 := HZ.out (j + 1) hlt
          have b2 := HZ.out j (by omega)
          clear hcell
          by_cases hy : y ≤ gt zs (j + 1) - gt zs j
          · have HS := Lib.hid (idxTo_yes (risesP_yes (zs := zs) (by' := y) (i := j + 1) (by omega) hy))
            go_wp2
            go_quiet (fail)
            go_wp2_with (at_builtin; refine wpList_append_own _ rfl _ _ 30 rfl w.heap.size 2 i0 (.int .i64 0) 1 8 Try.underlying30 hi hz0 hz1 hz2 rfl (by decide) _ _ _ rfl ((own_dr hown _).alloc _) ⟨wr.heap.size, 0, none⟩ 1 1 [.int .i64 ((j : Int) + 1)] rfl rfl (by first | exact app_news (heap_alloc_new _ _) | exact app_news (heap_alloc_new wr _)) (app_one _) (by have := hlen; unfold maxLen; omega) (by have := hlen; omega) (by have := hb.size; simp; omega) ?_; intro v' w1 hown' hgrow _)
            have R1 := Lib.hid (app_own hown' HS.out)
            have R2 := Lib.hid (app_below (bl_alloc (bl_drewN hb _) _) ((own_dr hown _).alloc _) hgrow)
            go_roundg (zs.length - (j + 1))
            case measure => rw [HGK.out]; omega
            case rel => exact ⟨j + 2, by omega, by omega, by omega, by go_num, R1.out, R2.out⟩
          · have HS := Lib.hid (idxTo_no (risesP_no (zs := zs) (by' := y) (i := j + 1) hy))
            go_wp2
            go_quiet (fail)
            go_wp2
            go_roundg (zs.length - (j + 1))
            case measure => rw [HGK.out]; omega
            case rel => exact ⟨j + 2, by omega, by omega, by omega, by go_num, by rw [HS.out]; exact own_dr hown _, bl_drewN hb _⟩
        · have HE := Lib.hid (idx_last (zs := zs) (y := y) hlt hk)
          go_wp2
          go_ret2
          rw [H.out.1, H.out.2, ← HE.out]
          exact newC_end hown hb
end Go.Proofs.Ytgcgbhecpgeheaa
