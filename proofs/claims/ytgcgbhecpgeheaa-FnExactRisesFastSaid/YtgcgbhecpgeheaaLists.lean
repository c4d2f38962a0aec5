/-
  Contracts of functions that make lists of numbers: places where something is so, ranks, what runs off. They hold for lists within the bounds that each names.
-/
import Derived.Test.YtgcgbhecpgeheaaMean
import Derived.Test.YtgcgbhecpgeheaaHelp
import Derived.Test.YtgcgbhecpgeheaaSeq
namespace Go.Proofs.Ytgcgbhecpgeheaa
open Go.RowKit

set_option maxHeartbeats 1600000 in
theorem implRoom (w : World) (A : Option Addr) (c : Nat) (zs : List Int) (loss held : Int) (hA : RC w A (ints zs)) (hm : zs.length ≤ 1048576) :
    Calls Try.prog 28 #[.slice A zs.length c, .int .i64 loss, .int .i64 held] w fun e w' => e = .returned (.tuple #[.int .i64 (roomV zs loss held), .int .i64 (roomC zs loss held)]) ∧ ∃ d, w' = w.drewN d := by
  have HA := Lib.hid hA
  clear hA
  cases k1 : rainOk zs
  · skip
    have H := Lib.hid (room_bad1 (loss := loss) (held := held) k1)
    go_enter Try.func28, Try.ntmps28
    go_wp2_with (first | (go_at_call 22; refine (implValidRain _ _ _ _ HA.out hm).mono ?_; rintro e w' ⟨rfl, rfl⟩) | (go_at_call 57; refine (isRain_any _ _).mono ?_; rintro e w' ⟨rfl, rfl⟩) | (go_at_call 64; refine (isHeld_any _ _).mono ?_; rintro e w' ⟨rfl, rfl⟩))
    go_ret2
    exact ⟨ret_two H.out.1.symm H.out.2.symm, 0, rfl⟩
  · cases k2 : rainB loss
    · skip
      have H := Lib.hid (room_bad2 (held := held) k1 k2)
      go_enter Try.func28, Try.ntmps28
      go_wp2_with (first | (go_at_call 22; refine (implValidRain _ _ _ _ HA.out hm).mono ?_; rintro e w' ⟨rfl, rfl⟩) | (go_at_call 57; refine (isRain_any _ _).mono ?_; rintro e w' ⟨rfl, rfl⟩) | (go_at_call 64; refine (isHeld_any _ _).mono ?_; rintro e w' ⟨rfl, rfl⟩))
      go_ret2
      exact ⟨ret_two H.out.1.symm H.out.2.symm, 0, rfl⟩
    · cases k3 : heldB held
      · skip
        have H := Lib.hid (room_bad3 k1 k2 k3)
        go_enter Try.func28, Try.ntmps28
        go_wp2_with (first | (go_at_call 22; refine (implValidRain _ _ _ _ HA.out hm).mono ?_; rintro e w' ⟨rfl, rfl⟩) | (go_at_call 57; refine (isRain_any _ _).mono ?_; rintro e w' ⟨rfl, rfl⟩) | (go_at_call 64; refine (isHeld_any _ _).mono ?_; rintro e w' ⟨rfl, rfl⟩))
        go_ret2
        exact ⟨ret_two H.out.1.symm H.out.2.symm, 0, rfl⟩
      · have H := Lib.hid (room_ok k1 k2 k3)
        have r1 := rainOk_of k1
        have r2 := rainB_of k2
        have r3 := heldB_of k3
        go_enter Try.func28, Try.ntmps28
        go_wp2_with (first | (go_at_call 22; refine (implValidRain _ _ _ _ HA.out hm).mono ?_; rintro e w' ⟨rfl, rfl⟩) | (go_at_call 57; refine (isRain_any _ _).mono ?_; rintro e w' ⟨rfl, rfl⟩) | (go_at_call 64; refine (isHeld_any _ _).mono ?_; rintro e w' ⟨rfl, rfl⟩))
        go_loopg [2, 8, 27] zs.length (fun m h r i wr => ∃ k, k ≤ zs.length ∧ m = zs.length - k ∧ i = .int .i64 (k : Int) ∧ h = .int .i64 (roomH zs loss held k) ∧ r = .int .i64 (roomM zs loss held k) ∧ ∃ d, wr = w.drewN d)
        case atStart => exact ⟨0, Nat.zero_le _, by omega, rfl, rfl, rfl, 0, rfl⟩
        case round =>
          obtain ⟨k, hk, hgk, rfl, rfl, rfl, d, rfl⟩ := hrel
          have HGK := Lib.hid hgk
          clear hgk
          have b1 := roomH_bd r1.2.2 r2 r3 k hk
          have b2 := roomM_bd r1.2.2 r2 r3 k hk
          by_cases hlt : k < zs.length
          · obtain ⟨b, off, rfl, hbl, hcell⟩ := HA.out (by rw [ints_len]; omega)
            have h1 := hcell k (by rw [ints_len]; exact hlt)
            rw [ints_get zs k hlt] at h1
            have h2 := r1.2.2 k hlt
            have hk120 : k ≤ 120 := by omega
            clear hcell r1
            by_cases c1 : loss < roomH zs loss held k
            · by_cases c2 : roomM zs loss held k < roomH zs loss held k - loss + gt zs k
              · have HS := Lib.hid (room_step1 (zs := zs) (loss := loss) (held := held) (k := k) (by omega) (by omega))
                go_wp2
                go_roundg (zs.length - (k + 1))
                case measure => rw [HGK.out]; omega
                case rel => exact ⟨k + 1, by omega, rfl, by go_num, ret_v HS.out.1, ret_v HS.out.2, d, rfl⟩
              · have HS := Lib.hid (room_step2 (zs := zs) (loss := loss) (held := held) (k := k) (by omega) (by omega))
                go_wp2
                go_roundg (zs.length - (k + 1))
                case measure => rw [HGK.out]; omega
                case rel => exact ⟨k + 1, by omega, rfl, by go_num, ret_v HS.out.1, ret_v HS.out.2, d, rfl⟩
            · by_cases c2 : roomM zs loss held k < gt zs k
              · have HS := Lib.hid (room_step3 (zs := zs) (loss := loss) (held := held) (k := k) (by omega) (by omega))
                go_wp2
                go_roundg (zs.length - (k + 1))
                case measure => rw [HGK.out]; omega
                case rel => exact ⟨k + 1, by omega, rfl, by go_num, ret_v HS.out.1, ret_v HS.out.2, d, rfl⟩
              · have HS := Lib.hid (room_step4 (zs := zs) (loss := loss) (held := held) (k := k) (by omega) (by omega))
                go_wp2
                go_roundg (zs.length - (k + 1))
                case measure => rw [HGK.out]; omega
                case rel => exact ⟨k + 1, by omega, rfl, by go_num, ret_v HS.out.1, ret_v HS.out.2, d, rfl⟩
          · obtain rfl : k = zs.length := by omega
            go_wp2
            go_ret2
            exact ⟨ret_two H.out.1.symm H.out.2.symm, d, rfl⟩
set_option maxHeartbeats 1600000 in
theorem specRoom (w : World) (A : Option Addr) (c : Nat) (zs : List Int) (loss held : Int) (hA : RC w A (ints zs)) (hm : zs.length ≤ 1048576) :
    Calls Try.prog 27 #[.slice A zs.length c, .int .i64 loss, .int .i64 held] w fun e w' => e = .returned (.tuple #[.int .i64 (roomV zs loss held), .int .i64 (roomC zs loss held)]) ∧ ∃ d, w' = w.drewN d := by
  have HA := Lib.hid hA
  clear hA
  cases k1 : rainOk zs
  · skip
    have H := Lib.hid (room_bad1 (loss := loss) (held := held) k1)
    go_enter Try.func27, Try.ntmps27
    go_wp2_with (first | (go_at_call 54; refine (l06Ok_any _ _ _ _ HA.out hm).mono ?_; rintro e w' ⟨rfl, rfl⟩) | (go_at_call 62; refine (l06One_any _ _).mono ?_; rintro e w' ⟨rfl, rfl⟩) | (go_at_call 51; refine (l00In_any _ _ _ _).mono ?_; rintro e w' ⟨rfl, rfl⟩))
    go_ret2
    exact ⟨ret_two H.out.1.symm H.out.2.symm, 0, rfl⟩
  · cases k2 : rainB loss
    · skip
      have H := Lib.hid (room_bad2 (held := held) k1 k2)
      go_enter Try.func27, Try.ntmps27
      go_wp2_with (first | (go_at_call 54; refine (l06Ok_any _ _ _ _ HA.out hm).mono ?_; rintro e w' ⟨rfl, rfl⟩) | (go_at_call 62; refine (l06One_any _ _).mono ?_; rintro e w' ⟨rfl, rfl⟩) | (go_at_call 51; refine (l00In_any _ _ _ _).mono ?_; rintro e w' ⟨rfl, rfl⟩))
      go_ret2
      exact ⟨ret_two H.out.1.symm H.out.2.symm, 0, rfl⟩
    · cases k3 : inR held 0 100000
      · skip
        have H := Lib.hid (room_bad3 k1 k2 k3)
        go_enter Try.func27, Try.ntmps27
        go_wp2_with (first | (go_at_call 54; refine (l06Ok_any _ _ _ _ HA.out hm).mono ?_; rintro e w' ⟨rfl, rfl⟩) | (go_at_call 62; refine (l06One_any _ _).mono ?_; rintro e w' ⟨rfl, rfl⟩) | (go_at_call 51; refine (l00In_any _ _ _ _).mono ?_; rintro e w' ⟨rfl, rfl⟩))
        go_ret2
        exact ⟨ret_two H.out.1.symm H.out.2.symm, 0, rfl⟩
      · have H := Lib.hid (room_ok k1 k2 k3)
        have r1 := rainOk_of k1
        have r2 := rainB_of k2
        have r3 := heldB_of k3
        go_enter Try.func27, Try.ntmps27
        go_wp2_with (first | (go_at_call 54; refine (l06Ok_any _ _ _ _ HA.out hm).mono ?_; rintro e w' ⟨rfl, rfl⟩) | (go_at_call 62; refine (l06One_any _ _).mono ?_; rintro e w' ⟨rfl, rfl⟩) | (go_at_call 51; refine (l00In_any _ _ _ _).mono ?_; rintro e w' ⟨rfl, rfl⟩))
        go_loopg [2, 8, 9] zs.length (fun m h r i wr => ∃ k, k ≤ zs.length ∧ m = zs.length - k ∧ i = .int .i64 (k : Int) ∧ h = .int .i64 (roomH zs loss held k) ∧ r = .int .i64 (roomM zs loss held k) ∧ ∃ d, wr = w.drewN d)
        case atStart => exact ⟨0, Nat.zero_le _, by omega, rfl, rfl, rfl, 0, rfl⟩
        case round =>
          obtain ⟨k, hk, hgk, rfl, rfl, rfl, d, rfl⟩ := hrel
          have HGK := Lib.hid hgk
          clear hgk
          have b1 := roomH_bd r1.2.2 r2 r3 k hk
          have b2 := roomM_bd r1.2.2 r2 r3 k hk
          by_cases hlt : k < zs.length
          · obtain ⟨b, off, rfl, hbl, hcell⟩ := HA.out (by rw [ints_len]; omega)
            have h1 := hcell k (by rw [ints_len]; exact hlt)
            rw [ints_get zs k hlt] at h1
            have h2 := r1.2.2 k hlt
            have hk120 : k ≤ 120 := by omega
            clear hcell r1
            have m1 := mx_bd 0 (roomH zs loss held k - loss)
            go_wp2
            go_quiet ((go_at_call 63; first | exact quiet_add_eq (l00Max_any _ _ _) | exact quiet_eq (l00Max_any _ _ _)))
            go_wp2_with (go_at_call 63; refine (l00Max_any _ _ _).mono ?_; rintro e w' ⟨rfl, rfl⟩)
            go_roundg (zs.length - (k + 1))
            case measure => rw [HGK.out]; omega
            case rel => exact ⟨k + 1, by omega, rfl, by go_num, rfl, rfl, _, rfl⟩
          · obtain rfl : k = zs.length := by omega
            go_wp2
            go_ret2
            exact ⟨ret_two H.out.1.symm H.out.2.symm, d, rfl⟩
set_option maxHeartbeats 3200000 in
theorem implRunoff (w : World) (A : Option Addr) (c : Nat) (zs : List Int) (room loss held : Int) (hA : RC w A (ints zs)) (hm : zs.length ≤ 1048576) :
    Calls Try.prog 38 #[.slice A zs.length c, .int .i64 room, .int .i64 loss, .int .i64 held] w (NewIntsCC (runL zs room loss held) (runK zs room loss held) (runC zs room loss held) w) := by
  have HA := Lib.hid hA
  clear hA
  cases k0 : rainOk zs
  · skip
    have H := Lib.hid (run_bad0 (room := room) (loss := loss) (held := held) k0)
    go_enter Try.func38, Try.ntmps38
    go_wp2_with (first | (go_at_call 22; refine (implValidRain _ _ _ _ HA.out hm).mono ?_; rintro e w' ⟨rfl, rfl⟩) | (go_at_call 64; refine (isHeld_any _ _).mono ?_; rintro e w' ⟨rfl, rfl⟩) | (go_at_call 57; refine (isRain_any _ _).mono ?_; rintro e w' ⟨rfl, rfl⟩) | (go_at_call 50; refine (in_any _ _ _ _).mono ?_; rintro e w' ⟨rfl, rfl⟩))
    go_ret3
    rw [H.out.1, H.out.2.1, H.out.2.2]
    exact newCC_nil _ _ _ _ _ (by repeat (first | exact Below.refl _ _ | assumption | apply bl_alloc | apply bl_drewN | apply Below.drew | (refine bl_set ?_ (by first | exact Nat.le_refl _ | (simp; done) | (simp; omega)) _) | (refine bl_trans ?_ (by assumption))))
  · cases k1 : heldB room
    · have k1' : inR room 0 100000 = false := k1
      have H := Lib.hid (run_bad1 (loss := loss) (held := held) k0 k1)
      go_enter Try.func38, Try.ntmps38
      go_wp2_with (first | (go_at_call 22; refine (implValidRain _ _ _ _ HA.out hm).mono ?_; rintro e w' ⟨rfl, rfl⟩) | (go_at_call 64; refine (isHeld_any _ _).mono ?_; rintro e w' ⟨rfl, rfl⟩) | (go_at_call 57; refine (isRain_any _ _).mono ?_; rintro e w' ⟨rfl, rfl⟩) | (go_at_call 50; refine (in_any _ _ _ _).mono ?_; rintro e w' ⟨rfl, rfl⟩))
      go_ret3
      rw [H.out.1, H.out.2.1, H.out.2.2]
      exact newCC_nil _ _ _ _ _ (by repeat (first | exact Below.refl _ _ | assumption | apply bl_alloc | apply bl_drewN | apply Below.drew | (refine bl_set ?_ (by first | exact Nat.le_refl _ | (simp; done) | (simp; omega)) _) | (refine bl_trans ?_ (by assumption))))
    · have k1' : inR room 0 100000 = true := k1
      cases k2 : rainB loss
      · skip
        have H := Lib.hid (run_bad2 (room := room) (held := held) k0 k2)
        go_enter Try.func38, Try.ntmps38
        go_wp2_with (first | (go_at_call 22; refine (implValidRain _ _ _ _ HA.out hm).mono ?_; rintro e w' ⟨rfl, rfl⟩) | (go_at_call 64; refine (isHeld_any _ _).mono ?_; rintro e w' ⟨rfl, rfl⟩) | (go_at_call 57; refine (isRain_any _ _).mono ?_; rintro e w' ⟨rfl, rfl⟩) | (go_at_call 50; refine (in_any _ _ _ _).mono ?_; rintro e w' ⟨rfl, rfl⟩))
        go_ret3
        rw [H.out.1, H.out.2.1, H.out.2.2]
        exact newCC_nil _ _ _ _ _ (by repeat (first | exact Below.refl _ _ | assumption | apply bl_alloc | apply bl_drewN | apply Below.drew | (refine bl_set ?_ (by first | exact Nat.le_refl _ | (simp; done) | (simp; omega)) _) | (refine bl_trans ?_ (by assumption))))
      · cases k3 : inR held 0 room
        · skip
          have H := Lib.hid (run_bad3 (loss := loss) k0 k3)
          go_enter Try.func38, Try.ntmps38
          go_wp2_with (first | (go_at_call 22; refine (implValidRain _ _ _ _ HA.out hm).mono ?_; rintro e w' ⟨rfl, rfl⟩) | (go_at_call 64; refine (isHeld_any _ _).mono ?_; rintro e w' ⟨rfl, rfl⟩) | (go_at_call 57; refine (isRain_any _ _).mono ?_; rintro e w' ⟨rfl, rfl⟩) | (go_at_call 50; refine (in_any _ _ _ _).mono ?_; rintro e w' ⟨rfl, rfl⟩))
          go_ret3
          rw [H.out.1, H.out.2.1, H.out.2.2]
          exact newCC_nil _ _ _ _ _ (by repeat (first | exact Below.refl _ _ | assumption | apply bl_alloc | apply bl_drewN | apply Below.drew | (refine bl_set ?_ (by first | exact Nat.le_refl _ | (simp; done) | (simp; omega)) _) | (refine bl_trans ?_ (by assumption))))
        · have H := Lib.hid (run_ok k0 k1 k2 k3)
          have r0 := rainOk_of k0
          have r1 := heldB_of k1
          have r2 := rainB_of k2
          have r3 := inR_of k3
          obtain ⟨i0, hi, hz0, hz1, hz2⟩ := info_parts infoInt
          go_enter Try.func38, Try.ntmps38
          go_wp2_with (first | (go_at_call 22; refine (implValidRain _ _ _ _ HA.out hm).mono ?_; rintro e w' ⟨rfl, rfl⟩) | (go_at_call 64; refine (isHeld_any _ _).mono ?_; rintro e w' ⟨rfl, rfl⟩) | (go_at_call 57; refine (isRain_any _ _).mono ?_; rintro e w' ⟨rfl, rfl⟩) | (go_at_call 50; refine (in_any _ _ _ _).mono ?_; rintro e w' ⟨rfl, rfl⟩))
          go_loopg [3, 11, 38] zs.length (fun m h v i wr => ∃ k, k ≤ zs.length ∧ m = zs.length - k ∧ i = .int .i64 (k : Int) ∧ h = .int .i64 (runH zs room loss held k) ∧
            wr.ownsRow w.heap.size 2 1 v (runO zs room loss held k).length (ints (runO zs room loss held k)) ∧ Below w.heap.size w wr)
          case atStart => exact ⟨0, Nat.zero_le _, by omega, rfl, rfl, own_lit _ (Below.refl _ _), bl_alloc (Below.refl _ _) _⟩
          case round =>
            obtain ⟨k, hk, hgk, rfl, rfl, hown, hb⟩ := hrel
            have HGK := Lib.hid hgk
            clear hgk
            have b1 := runH_bd r0.2.2 r2 r1 r3 k hk
            by_cases hlt : k < zs.length
            · obtain ⟨b, off, rfl, hbl, hcell⟩ := HA.out (by rw [ints_len]; omega)
              have h1 := (hb.cell (p := ⟨b, off + k, none⟩) hbl).trans (hcell k (by rw [ints_len]; exact hlt))
              rw [ints_get zs k hlt] at h1
              have h2 := r0.2.2 k hlt
              have hk120 : zs.length ≤ 120 := r0.2.1
              clear hcell r0
              by_cases c1 : loss < runH zs room loss held k
              · by_cases c2 : runH zs room loss held k - loss + gt zs k ≤ room
                · have HS := Lib.hid (run_step (zs := zs) (room := room) (loss := loss) (held := held) (k := k) (p := runH zs room loss held k - loss) (x := 0) (h' := runH zs room loss held k - loss + gt zs k) (mx0_pos (by omega)).symm (mx0_le (by omega)).symm (by omega))
                  go_wp2_with (at_builtin; refine wpList_append_own _ rfl _ _ 30 rfl w.heap.size 2 i0 (.int .i64 0) 1 8 Try.underlying30 hi hz0 hz1 hz2 rfl (by decide) _ _ _ rfl (hown.alloc _) ⟨wr.heap.size, 0, none⟩ 1 1 [.int .i64 0] rfl rfl (by first | exact app_news (heap_alloc_new _ _) | exact app_news (heap_alloc_new wr _)) (app_one _) (by have := runO_len zs room loss held k; unfold maxLen; omega) (by have := runO_len zs room loss held k; omega) (by have := hb.size; simp; omega) ?_; intro v' w1 hown' hgrow _)
                  have R1 := Lib.hid (app_own hown' HS.out.2)
                  have R2 := Lib.hid (app_below (bl_alloc hb _) (hown.alloc _) hgrow)
                  go_roundg (zs.length - (k + 1))
                  case measure => rw [HGK.out]; omega
                  case rel => exact ⟨k + 1, by omega, rfl, by go_num, ret_v HS.out.1, R1.out, R2.out⟩
                · have HS := Lib.hid (run_step (zs := zs) (room := room) (loss := loss) (held := held) (k := k) (p := runH zs room loss held k - loss) (x := (runH zs room loss held k - loss + gt zs k - room)) (h' := room) (mx0_pos (by omega)).symm (by first | exact (mx0_pos (by omega)).symm | (rw [mx0_pos (by omega)]; omega)) (by omega))
                  go_wp2_with (at_builtin; refine wpList_append_own _ rfl _ _ 30 rfl w.heap.size 2 i0 (.int .i64 0) 1 8 Try.underlying30 hi hz0 hz1 hz2 rfl (by decide) _ _ _ rfl (hown.alloc _) ⟨wr.heap.size, 0, none⟩ 1 1 [.int .i64 (runH zs room loss held k - loss + gt zs k - room)] rfl rfl (by first | exact app_news (heap_alloc_new _ _) | exact app_news (heap_alloc_new wr _)) (app_one _) (by have := runO_len zs room loss held k; unfold maxLen; omega) (by have := runO_len zs room loss held k; omega) (by have := hb.size; simp; omega) ?_; intro v' w1 hown' hgrow _)
                  have R1 := Lib.hid (app_own hown' HS.out.2)
                  have R2 := Lib.hid (app_below (bl_alloc hb _) (hown.alloc _) hgrow)
                  go_roundg (zs.length - (k + 1))
                  case measure => rw [HGK.out]; omega
                  case rel => exact ⟨k + 1, by omega, rfl, by go_num, ret_v HS.out.1, R1.out, R2.out⟩
              · by_cases c2 : gt zs k ≤ room
                · have HS := Lib.hid (run_step (zs := zs) (room := room) (loss := loss) (held := held) (k := k) (p := 0) (x := 0) (h' := gt zs k) (mx0_le (by omega)).symm (mx0_le (by omega)).symm (by omega))
                  go_wp2_with (at_builtin; refine wpList_append_own _ rfl _ _ 30 rfl w.heap.size 2 i0 (.int .i64 0) 1 8 Try.underlying30 hi hz0 hz1 hz2 rfl (by decide) _ _ _ rfl (hown.alloc _) ⟨wr.heap.size, 0, none⟩ 1 1 [.int .i64 0] rfl rfl (by first | exact app_news (heap_alloc_new _ _) | exact app_news (heap_alloc_new wr _)) (app_one _) (by have := runO_len zs room loss held k; unfold maxLen; omega) (by have := runO_len zs room loss held k; omega) (by have := hb.size; simp; omega) ?_; intro v' w1 hown' hgrow _)
                  have R1 := Lib.hid (app_own hown' HS.out.2)
                  have R2 := Lib.hid (app_below (bl_alloc hb _) (hown.alloc _) hgrow)
                  go_roundg (zs.length - (k + 1))
                  case measure => rw [HGK.out]; omega
                  case rel => exact ⟨k + 1, by omega, rfl, by go_num, ret_v HS.out.1, R1.out, R2.out⟩
                · have HS := Lib.hid (run_step (zs := zs) (room := room) (loss := loss) (held := held) (k := k) (p := 0) (x := (gt zs k - room)) (h' := room) (mx0_le (by omega)).symm (by first | exact (mx0_pos (by omega)).symm | (rw [mx0_pos (by omega)]; omega)) (by omega))
                  go_wp2_with (at_builtin; refine wpList_append_own _ rfl _ _ 30 rfl w.heap.size 2 i0 (.int .i64 0) 1 8 Try.underlying30 hi hz0 hz1 hz2 rfl (by decide) _ _ _ rfl (hown.alloc _) ⟨wr.heap.size, 0, none⟩ 1 1 [.int .i64 (gt zs k - room)] rfl rfl (by first | exact app_news (heap_alloc_new _ _) | exact app_news (heap_alloc_new wr _)) (app_one _) (by have := runO_len zs room loss held k; unfold maxLen; omega) (by have := runO_len zs room loss held k; omega) (by have := hb.size; simp; omega) ?_; intro v' w1 hown' hgrow _)
                  have R1 := Lib.hid (app_own hown' HS.out.2)
                  have R2 := Lib.hid (app_below (bl_alloc hb _) (hown.alloc _) hgrow)
                  go_roundg (zs.length - (k + 1))
                  case measure => rw [HGK.out]; omega
                  case rel => exact ⟨k + 1, by omega, rfl, by go_num, ret_v HS.out.1, R1.out, R2.out⟩
            · obtain rfl : k = zs.length := by omega
              go_wp2
              go_ret3
              rw [H.out.1, H.out.2.1, H.out.2.2]
              exact newCC_end hown hb
set_option maxHeartbeats 3200000 in
theorem specRunoff (w : World) (A : Option Addr) (c : Nat) (zs : List Int) (room loss held : Int) (hA : RC w A (ints zs)) (hm : zs.length ≤ 1048576) :
    Calls Try.prog 37 #[.slice A zs.length c, .int .i64 room, .int .i64 loss, .int .i64 held] w (NewIntsCC (runL zs room loss held) (runK zs room loss held) (runC zs room loss held) w) := by
  have HA := Lib.hid hA
  clear hA
  cases k0 : rainOk zs
  · skip
    have H := Lib.hid (run_bad0 (room := room) (loss := loss) (held := held) k0)
    go_enter Try.func37, Try.ntmps37
    go_wp2_with (first | (go_at_call 54; refine (l06Ok_any _ _ _ _ HA.out hm).mono ?_; rintro e w' ⟨rfl, rfl⟩) | (go_at_call 62; refine (l06One_any _ _).mono ?_; rintro e w' ⟨rfl, rfl⟩) | (go_at_call 51; refine (l00In_any _ _ _ _).mono ?_; rintro e w' ⟨rfl, rfl⟩))
    go_ret3
    rw [H.out.1, H.out.2.1, H.out.2.2]
    exact newCC_nil _ _ _ _ _ (by repeat (first | exact Below.refl _ _ | assumption | apply bl_alloc | apply bl_drewN | apply Below.drew | (refine bl_set ?_ (by first | exact Nat.le_refl _ | (simp; done) | (simp; omega)) _) | (refine bl_trans ?_ (by assumption))))
  · cases k1 : heldB room
    · have k1' : inR room 0 100000 = false := k1
      have H := Lib.hid (run_bad1 (loss := loss) (held := held) k0 k1)
      go_enter Try.func37, Try.ntmps37
      go_wp2_with (first | (go_at_call 54; refine (l06Ok_any _ _ _ _ HA.out hm).mono ?_; rintro e w' ⟨rfl, rfl⟩) | (go_at_call 62; refine (l06One_any _ _).mono ?_; rintro e w' ⟨rfl, rfl⟩) | (go_at_call 51; refine (l00In_any _ _ _ _).mono ?_; rintro e w' ⟨rfl, rfl⟩))
      go_ret3
      rw [H.out.1, H.out.2.1, H.out.2.2]
      exact newCC_nil _ _ _ _ _ (by repeat (first | exact Below.refl _ _ | assumption | apply bl_alloc | apply bl_drewN | apply Below.drew | (refine bl_set ?_ (by first | exact Nat.le_refl _ | (simp; done) | (simp; omega)) _) | (refine bl_trans ?_ (by assumption))))
    · have k1' : inR room 0 100000 = true := k1
      cases k2 : rainB loss
      · skip
        have H := Lib.hid (run_bad2 (room := room) (held := held) k0 k2)
        go_enter Try.func37, Try.ntmps37
        go_wp2_with (first | (go_at_call 54; refine (l06Ok_any _ _ _ _ HA.out hm).mono ?_; rintro e w' ⟨rfl, rfl⟩) | (go_at_call 62; refine (l06One_any _ _).mono ?_; rintro e w' ⟨rfl, rfl⟩) | (go_at_call 51; refine (l00In_any _ _ _ _).mono ?_; rintro e w' ⟨rfl, rfl⟩))
        go_ret3
        rw [H.out.1, H.out.2.1, H.out.2.2]
        exact newCC_nil _ _ _ _ _ (by repeat (first | exact Below.refl _ _ | assumption | apply bl_alloc | apply bl_drewN | apply Below.drew | (refine bl_set ?_ (by first | exact Nat.le_refl _ | (simp; done) | (simp; omega)) _) | (refine bl_trans ?_ (by assumption))))
      · cases k3 : inR held 0 room
        · skip
          have H := Lib.hid (run_bad3 (loss := loss) k0 k3)
          go_enter Try.func37, Try.ntmps37
          go_wp2_with (first | (go_at_call 54; refine (l06Ok_any _ _ _ _ HA.out hm).mono ?_; rintro e w' ⟨rfl, rfl⟩) | (go_at_call 62; refine (l06One_any _ _).mono ?_; rintro e w' ⟨rfl, rfl⟩) | (go_at_call 51; refine (l00In_any _ _ _ _).mono ?_; rintro e w' ⟨rfl, rfl⟩))
          go_ret3
          rw [H.out.1, H.out.2.1, H.out.2.2]
          exact newCC_nil _ _ _ _ _ (by repeat (first | exact Below.refl _ _ | assumption | apply bl_alloc | apply bl_drewN | apply Below.drew | (refine bl_set ?_ (by first | exact Nat.le_refl _ | (simp; done) | (simp; omega)) _) | (refine bl_trans ?_ (by assumption))))
        · have H := Lib.hid (run_ok k0 k1 k2 k3)
          have r0 := rainOk_of k0
          have r1 := heldB_of k1
          have r2 := rainB_of k2
          have r3 := inR_of k3
          obtain ⟨i0, hi, hz0, hz1, hz2⟩ := info_parts infoInt
          go_enter Try.func37, Try.ntmps37
          go_wp2_with (first | (go_at_call 54; refine (l06Ok_any _ _ _ _ HA.out hm).mono ?_; rintro e w' ⟨rfl, rfl⟩) | (go_at_call 62; refine (l06One_any _ _).mono ?_; rintro e w' ⟨rfl, rfl⟩) | (go_at_call 51; refine (l00In_any _ _ _ _).mono ?_; rintro e w' ⟨rfl, rfl⟩))
          go_loopg [3, 11, 12] zs.length (fun m h v i wr => ∃ k, k ≤ zs.length ∧ m = zs.length - k ∧ i = .int .i64 (k : Int) ∧ h = .int .i64 (runH zs room loss held k) ∧
            wr.ownsRow w.heap.size 2 1 v (runO zs room loss held k).length (ints (runO zs room loss held k)) ∧ Below w.heap.size w wr)
          case atStart => exact ⟨0, Nat.zero_le _, by omega, rfl, rfl, own_lit _ (Below.refl _ _), bl_alloc (Below.refl _ _) _⟩
          case round =>
            obtain ⟨k, hk, hgk, rfl, rfl, hown, hb⟩ := hrel
            have HGK := Lib.hid hgk
            clear hgk
            have b1 := runH_bd r0.2.2 r2 r1 r3 k hk
            by_cases hlt : k < zs.length
            · obtain ⟨b, off, rfl, hbl, hcell⟩ := HA.out (by rw [ints_len]; omega)
              have h1 := (hb.cell (p := ⟨b, off + k, none⟩) hbl).trans (hcell k (by rw [ints_len]; exact hlt))
              rw [ints_get zs k hlt] at h1
              have h2 := r0.2.2 k hlt
              have hk120 : zs.length ≤ 120 := r0.2.1
              clear hcell r0
              have m1 := mx_bd 0 (runH zs room loss held k - loss)
              have m2 := mx_bd 0 (mx 0 (runH zs room loss held k - loss) + gt zs k - room)
              have HS := Lib.hid (run_step (zs := zs) (room := room) (loss := loss) (held := held) (k := k) rfl rfl rfl)
              go_wp2
              go_quiet ((go_at_call 63; first | exact quiet_add_eq (l00Max_any _ _ _) | exact quiet_eq (l00Max_any _ _ _)))
              go_wp2_with (first | (go_at_call 63; refine (l00Max_any _ _ _).mono ?_; rintro e w' ⟨rfl, rfl⟩) | (at_builtin; refine wpList_append_own _ rfl _ _ 30 rfl w.heap.size 2 i0 (.int .i64 0) 1 8 Try.underlying30 hi hz0 hz1 hz2 rfl (by decide) _ _ _ rfl ((own_dr hown _).alloc _) ⟨wr.heap.size, 0, none⟩ 1 1 [.int .i64 (mx 0 (mx 0 (runH zs room loss held k - loss) + gt zs k - room))] rfl rfl (by first | exact app_news (heap_alloc_new _ _) | exact app_news (heap_alloc_new wr _)) (app_one _) (by have := runO_len zs room loss held k; unfold maxLen; omega) (by have := runO_len zs room loss held k; omega) (by have := hb.size; simp; omega) ?_; intro v' w1 hown' hgrow _))
              have R1 := Lib.hid (app_own hown' HS.out.2)
              have R2 := Lib.hid (app_below (bl_alloc (bl_drewN hb _) _) ((own_dr hown _).alloc _) hgrow)
              go_roundg (zs.length - (k + 1))
              case measure => rw [HGK.out]; omega
              case rel => exact ⟨k + 1, by omega, rfl, by go_num, ret_v HS.out.1, R1.out, R2.out⟩
            · obtain rfl : k = zs.length := by omega
              go_wp2
              go_ret3
              rw [H.out.1, H.out.2.1, H.out.2.2]
              exact newCC_end hown hb
set_option maxHeartbeats 400000 in
theorem l06Over_any (w : World) (A : Option Addr) (c : Nat) (zs : List Int) (q : Int) (hA : RC w A (ints zs)) (hm : zs.length ≤ 1048576) :
    Calls Try.prog 69 #[.slice A zs.length c, .int .i64 q] w fun e w' => e = .returned (.int .i64 (cntGe zs q zs.length)) ∧ w = w' := by
  have HA := Lib.hid hA
  clear hA
  go_enter Try.func69, Try.ntmps69
  go_wp2
  go_loopg [5, 6] zs.length (fun m s i wr => ∃ k, k ≤ zs.length ∧ m = zs.length - k ∧ i = .int .i64 (k : Int) ∧ s = .int .i64 (cntGe zs q k) ∧ wr = w)
  case atStart => exact ⟨0, Nat.zero_le _, by omega, rfl, rfl, rfl⟩
  case round =>
    obtain ⟨k, hk, hgk, rfl, rfl, rfl⟩ := hrel
    have HGK := Lib.hid hgk
    clear hgk
    have b1 := cntGe_bd zs q k
    by_cases hlt : k < zs.length
    · obtain ⟨b, off, rfl, hbl, hcell⟩ := HA.out (by rw [ints_len]; omega)
      have h1 := hcell k (by rw [ints_len]; exact hlt)
      rw [ints_get zs k hlt] at h1
      clear hcell
      by_cases hq : q ≤ gt zs k
      · have HS := Lib.hid (cntGe_yes hq)
        go_wp2
        go_roundg (zs.length - (k + 1))
        case measure => rw [HGK.out]; omega
        case rel => exact ⟨k + 1, by omega, rfl, by go_num, ret_v HS.out.symm, rfl⟩
      · have HS := Lib.hid (cntGe_no hq)
        go_wp2
        go_roundg (zs.length - (k + 1))
        case measure => rw [HGK.out]; omega
        case rel => exact ⟨k + 1, by omega, rfl, by go_num, ret_v HS.out.symm, rfl⟩
    · obtain rfl : k = zs.length := by omega
      go_wp2
      go_ret
      exact ⟨rfl, rfl⟩
set_option maxHeartbeats 1600000 in
theorem implRanks (w : World) (A : Option Addr) (c : Nat) (zs : List Int) (hA : RC w A (ints zs)) (hm : zs.length ≤ 1048576) :
    Calls Try.prog 34 #[.slice A zs.length c] w (NewIntsC (ranksL zs) (ranksC zs) w) := by
  have HA := Lib.hid hA
  clear hA
  cases k0 : rainOk zs
  · have H := Lib.hid (ranks_bad k0)
    go_enter Try.func34, Try.ntmps34
    go_wp2_with ((go_at_call 22; refine (implValidRain _ _ _ _ HA.out hm).mono ?_; rintro e w' ⟨rfl, rfl⟩))
    go_ret2
    rw [H.out.1, H.out.2]
    exact newC_nil _ _ _ _ (by repeat (first | exact Below.refl _ _ | assumption | apply bl_alloc | apply bl_drewN | apply Below.drew | (refine bl_set ?_ (by first | exact Nat.le_refl _ | (simp; done) | (simp; omega)) _) | (refine bl_trans ?_ (by assumption))))
  · have H := Lib.hid (ranks_ok k0)
    have r0 := rainOk_of k0
    obtain ⟨i0, hi, hz0, hz1, hz2⟩ := info_parts infoInt
    go_enter Try.func34, Try.ntmps34
    go_wp2_with ((go_at_call 22; refine (implValidRain _ _ _ _ HA.out hm).mono ?_; rintro e w' ⟨rfl, rfl⟩))
    go_loopg [4, 17] zs.length (fun m v i wr => ∃ k, k ≤ zs.length ∧ m = zs.length - k ∧ i = .int .i64 (k : Int) ∧ wr.ownsRow w.heap.size 2 1 v (ranksTo zs k).length (ints (ranksTo zs k)) ∧ Below w.heap.size w wr)
    case atStart => exact ⟨0, Nat.zero_le _, by omega, rfl, own_lit _ (Below.refl _ _), bl_alloc (Below.refl _ _) _⟩
    case round =>
      obtain ⟨k, hk, hgk, rfl, hown, hb⟩ := hrel
      have HGK := Lib.hid hgk
      clear hgk
      by_cases hlt : k < zs.length
      · obtain ⟨b, off, rfl, hbl, hcell⟩ := HA.out (by rw [ints_len]; omega)
        have h1 := (hb.cell (p := ⟨b, off + k, none⟩) hbl).trans (hcell k (by rw [ints_len]; exact hlt))
        rw [ints_get zs k hlt] at h1
        have h2 := r0.2.2 k hlt
        have hk120 : zs.length ≤ 120 := r0.2.1
        clear r0
        have HS := Lib.hid (show ranksTo zs (k + 1) = ranksTo zs k ++ [cntGe zs (gt zs k + 1) zs.length + 1] from rfl)
        have HHB := Lib.hid hb
        have HOW := Lib.hid hown
        clear hb hown
        obtain ⟨wo, rfl⟩ : ∃ wo : World, wo = wr := ⟨_, rfl⟩
        go_wp2
        go_loopg [7, 23] zs.length (fun m s i wi => ∃ j, j ≤ zs.length ∧ m = zs.length - j ∧ i = .int .i64 (j : Int) ∧ s = .int .i64 (cntGe zs (gt zs k + 1) j + 1) ∧ wi = wo)
        case atStart => exact ⟨0, Nat.zero_le _, by omega, rfl, rfl, rfl⟩
        case round =>
          obtain ⟨j, hj, hgj, rfl, rfl, rfl⟩ := hrel
          have HGJ := Lib.hid hgj
          clear hgj
          have b2 := cntGe_bd zs (gt zs k + 1) j
          by_cases hlj : j < zs.length
          · have h2 := (HHB.out.cell (p := ⟨b, off + j, none⟩) hbl).trans (hcell j (by rw [ints_len]; exact hlj))
            rw [ints_get zs j hlj] at h2
            by_cases hq : gt zs k < gt zs j
            · have HT := Lib.hid (cntGe_yes (zs := zs) (m := gt zs k + 1) (k := j) (by omega))
              clear hcell
              go_wp2
              go_roundg (zs.length - (j + 1))
              case measure => rw [HGJ.out]; omega
              case rel => exact ⟨j + 1, by omega, rfl, by go_num, ret_v (by rw [HT.out]), rfl⟩
            · have HT := Lib.hid (cntGe_no (zs := zs) (m := gt zs k + 1) (k := j) (by omega))
              clear hcell
              go_wp2
              go_roundg (zs.length - (j + 1))
              case measure => rw [HGJ.out]; omega
              case rel => exact ⟨j + 1, by omega, rfl, by go_num, ret_v (by rw [HT.out]), rfl⟩
          · obtain rfl : j = zs.length := by omega
            clear hcell
            have hb := HHB.out
            have hown := HOW.out
            go_wp2_with (at_builtin; refine wpList_append_own _ rfl _ _ 30 rfl w.heap.size 2 i0 (.int .i64 0) 1 8 Try.underlying30 hi hz0 hz1 hz2 rfl (by decide) _ _ _ rfl (hown.alloc _) ⟨wr.heap.size, 0, none⟩ 1 1 [.int .i64 (cntGe zs (gt zs k + 1) zs.length + 1)] rfl rfl (by first | exact app_news (heap_alloc_new _ _) | exact app_news (heap_alloc_new wr _)) (app_one _) (by have := ranksTo_len zs k; unfold maxLen; omega) (by have := ranksTo_len zs k; omega) (by have := hb.size; simp; omega) ?_; intro v' w1 hown' hgrow _)
            have R1 := Lib.hid (app_own hown' HS.out)
            have R2 := Lib.hid (app_below (bl_alloc hb _) (hown.alloc _) hgrow)
            go_roundg (zs.length - (k + 1))
            case measure => rw [HGK.out]; omega
            case rel => exact ⟨k + 1, by omega, rfl, by go_num, R1.out, R2.out⟩
      · obtain rfl : k = zs.length := by omega
        go_wp2
        go_ret2
        rw [H.out.1, H.out.2]
        exact newC_end hown hb
set_option maxHeartbeats 1600000 in
theorem specRanks (w : World) (A : Option Addr) (c : Nat) (zs : List Int) (hA : RC w A (ints zs)) (hm : zs.length ≤ 1048576) :
    Calls Try.prog 33 #[.slice A zs.length c] w (NewIntsC (ranksL zs) (ranksC zs) w) := by
  have HA := Lib.hid hA
  clear hA
  cases k0 : rainOk zs
  · have H := Lib.hid (ranks_bad k0)
    go_enter Try.func33, Try.ntmps33
    go_wp2_with ((go_at_call 54; refine (l06Ok_any _ _ _ _ HA.out hm).mono ?_; rintro e w' ⟨rfl, rfl⟩))
    go_ret2
    rw [H.out.1, H.out.2]
    exact newC_nil _ _ _ _ (by repeat (first | exact Below.refl _ _ | assumption | apply bl_alloc | apply bl_drewN | apply Below.drew | (refine bl_set ?_ (by first | exact Nat.le_refl _ | (simp; done) | (simp; omega)) _) | (refine bl_trans ?_ (by assumption))))
  · have H := Lib.hid (ranks_ok k0)
    have r0 := rainOk_of k0
    obtain ⟨i0, hi, hz0, hz1, hz2⟩ := info_parts infoInt
    go_enter Try.func33, Try.ntmps33
    go_wp2_with ((go_at_call 54; refine (l06Ok_any _ _ _ _ HA.out hm).mono ?_; rintro e w' ⟨rfl, rfl⟩))
    go_loopg [4, 5] zs.length (fun m v i wr => ∃ k, k ≤ zs.length ∧ m = zs.length - k ∧ i = .int .i64 (k : Int) ∧ wr.ownsRow w.heap.size 2 1 v (ranksTo zs k).length (ints (ranksTo zs k)) ∧ Below w.heap.size w wr)
    case atStart => exact ⟨0, Nat.zero_le _, by omega, rfl, own_lit _ (Below.refl _ _), bl_alloc (Below.refl _ _) _⟩
    case round =>
      obtain ⟨k, hk, hgk, rfl, hown, hb⟩ := hrel
      have HGK := Lib.hid hgk
      clear hgk
      by_cases hlt : k < zs.length
      · obtain ⟨b, off, rfl, hbl, hcell⟩ := HA.out (by rw [ints_len]; omega)
        have h1 := (hb.cell (p := ⟨b, off + k, none⟩) hbl).trans (hcell k (by rw [ints_len]; exact hlt))
        rw [ints_get zs k hlt] at h1
        have h2 := r0.2.2 k hlt
        have hk120 : zs.length ≤ 120 := r0.2.1
        clear r0
        have HS := Lib.hid (show ranksTo zs (k + 1) = ranksTo zs k ++ [cntGe zs (gt zs k + 1) zs.length + 1] from rfl)
        clear hcell
        have b1 := cntGe_bd zs (gt zs k + 1) zs.length
        go_wp2_with (first | (go_at_call 69; refine (l06Over_any _ _ _ _ _ (HA.out.below hb) hm).mono ?_; rintro e w' ⟨rfl, rfl⟩) | (at_builtin; refine wpList_append_own _ rfl _ _ 30 rfl w.heap.size 2 i0 (.int .i64 0) 1 8 Try.underlying30 hi hz0 hz1 hz2 rfl (by decide) _ _ _ rfl (hown.alloc _) ⟨wr.heap.size, 0, none⟩ 1 1 [.int .i64 (cntGe zs (gt zs k + 1) zs.length + 1)] rfl rfl (by first | exact app_news (heap_alloc_new _ _) | exact app_news (heap_alloc_new wr _)) (app_one _) (by have := ranksTo_len zs k; unfold maxLen; omega) (by have := ranksTo_len zs k; omega) (by have := hb.size; simp; omega) ?_; intro v' w1 hown' hgrow _))
        have R1 := Lib.hid (app_own hown' HS.out)
        have R2 := Lib.hid (app_below (bl_alloc hb _) (hown.alloc _) hgrow)
        go_roundg (zs.length - (k + 1))
        case measure => rw [HGK.out]; omega
        case rel => exact ⟨k + 1, by omega, rfl, by go_num, R1.out, R2.out⟩
      · obtain rfl : k = zs.length := by omega
        go_wp2
        go_ret2
        rw [H.out.1, H.out.2]
        exact newC_end hown hb
end Go.Proofs.Ytgcgbhecpgeheaa
