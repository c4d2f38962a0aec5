/-
  Contracts: the text of a level. They hold for every number.
-/
import Derived.Test.YtcjfdfjimcapkaaGreatDoorDecImpl
import Derived.Test.YtcjfdfjimcapkaaGreatDoorDec
import Derived.Test.YtcjfdfjimcapkaaGreatDoorLvPlain
import Derived.Test.YtcjfdfjimcapkaaGreatDoorFrac
namespace Go.Proofs.YtcjfdfjimcapkaaGreatDoor
set_option linter.unusedVariables false
open Go.RowKit

theorem it_len {n : Int} (h0 : -9223372036854775808 ≤ n) (h1 : n ≤ 9223372036854775807) : (Lib.itoa n).length ≤ 21 := Lib.itoa_length_le n h0 h1
set_option maxRecDepth 100000 in
set_option maxHeartbeats 800000 in
theorem l02Two_any (w : World) (b : Int) (h0 : 0 ≤ b) (h1 : b < 100) :
    Calls Tryz.prog 21 #[.int .i64 b] w fun e w' => e = .returned (.string ⟨(Lib.itoa (b / 10) ++ Lib.itoa (b % 10)).toArray⟩) ∧ Below w.heap.size w w' := by
  have i1 := it_len (n := b / 10) (by omega) (by omega)
  have i2 := it_len (n := b % 10) (by omega) (by omega)
  go_enter Tryz.func21, Tryz.ntmps21
  go_wp2_with ((go_at_call 19; refine (l01Dec_any _ _ (by omega) (by omega)).mono ?_; rintro e w1 ⟨rfl, hb1⟩))
  go_ret
  exact ⟨ret_bs (by simp only [ByteArray.mk_append_mk]), by repeat (first | exact Below.refl _ _ | assumption | apply bl_alloc | apply bl_drewN | apply Below.drew | (refine bl_set ?_ (by first | exact Nat.le_refl _ | (simp; done) | (simp; omega)) _) | (refine bl_trans ?_ (by assumption)))⟩
set_option maxRecDepth 100000 in
set_option maxHeartbeats 1600000 in
theorem l02Text_any (w : World) (n : Int) (hl : lvl n = true) :
    Calls Tryz.prog 11 #[.int .i64 n] w fun e w' => e = .returned (.string ⟨(lvTxt (sgnB n) (absN n)).toArray⟩) ∧ Below w.heap.size w w' := by
  have hn := lvl_of hl
  have ha : absN n ≤ 2000 := absN_le (by omega) (by omega)
  have hb0 : (0 : Int) ≤ (absN n : Int) := by omega
  have hb1 : (absN n : Int) ≤ 2000 := by omega
  have i1 := it_len (n := (absN n : Int) / 100) (by omega) (by omega)
  have i2 := it_len (n := (absN n : Int) % 100 / 10) (by omega) (by omega)
  have i3 := it_len (n := (absN n : Int) % 10) (by omega) (by omega)
  by_cases hs : n < 0
  · have HS := Lib.hid (sgn_neg hs)
    go_enter Tryz.func11, Tryz.ntmps11
    go_wp2_with (first | (go_at_call 20; refine (l02Size_any n (by omega) (by omega) _).mono ?_; rintro e w' ⟨rfl, rfl⟩) | (go_at_call 19; refine (l01Dec_any _ _ (by omega) (by omega)).mono ?_; rintro e w1 ⟨rfl, hx1⟩) | (go_at_call 21; refine (l02Two_any _ _ (by omega) (by omega)).mono ?_; rintro e w2 ⟨rfl, hx2⟩))
    go_ret
    exact ⟨ret_bs (by rw [lvTxt, HS.out]; simp only [ByteArray.mk_append_mk]), by repeat (first | exact Below.refl _ _ | assumption | apply bl_alloc | apply bl_drewN | apply Below.drew | (refine bl_set ?_ (by first | exact Nat.le_refl _ | (simp; done) | (simp; omega)) _) | (refine bl_trans ?_ (by assumption)))⟩
  · have HS := Lib.hid (sgn_pos hs)
    go_enter Tryz.func11, Tryz.ntmps11
    go_wp2_with (first | (go_at_call 20; refine (l02Size_any n (by omega) (by omega) _).mono ?_; rintro e w' ⟨rfl, rfl⟩) | (go_at_call 19; refine (l01Dec_any _ _ (by omega) (by omega)).mono ?_; rintro e w1 ⟨rfl, hx1⟩) | (go_at_call 21; refine (l02Two_any _ _ (by omega) (by omega)).mono ?_; rintro e w2 ⟨rfl, hx2⟩))
    go_ret
    exact ⟨ret_bs (by rw [lvTxt, HS.out]; simp only [ByteArray.mk_append_mk]), by repeat (first | exact Below.refl _ _ | assumption | apply bl_alloc | apply bl_drewN | apply Below.drew | (refine bl_set ?_ (by first | exact Nat.le_refl _ | (simp; done) | (simp; omega)) _) | (refine bl_trans ?_ (by assumption)))⟩
set_option maxRecDepth 100000 in
set_option maxHeartbeats 1600000 in
theorem implLevelText (w : World) (n : Int) (B : Nat) (hB : B ≤ w.heap.size) (ht : PowTab B w) :
    Calls Tryz.prog 18 #[.int .i64 n] w fun e w' => e = .returned (.string ⟨(lvText n).toArray⟩) ∧ Below w.heap.size w w' := by
  have HT := Lib.hid ht
  clear ht
  cases hl : lvl n
  · have H := Lib.hid (lv_no hl)
    go_enter Tryz.func18, Tryz.ntmps18
    go_wp2_with ((go_at_call 32; refine (validLevel_any _ _).mono ?_; rintro e w' ⟨rfl, rfl⟩))
    go_ret
    exact ⟨ret_bs (by rw [H.out]), Below.refl _ _⟩
  · have H := Lib.hid (lv_yes hl)
    have hn := lvl_of hl
    have ha : absN n ≤ 2000 := absN_le (by omega) (by omega)
    have hb0 : (0 : Int) ≤ (absN n : Int) := by omega
    have hb1 : (absN n : Int) ≤ 2000 := by omega
    have i1 := it_len (n := (absN n : Int) / 100) (by omega) (by omega)
    have i2 := it_len (n := (absN n : Int) % 100 / 10) (by omega) (by omega)
    have i3 := it_len (n := (absN n : Int) % 10) (by omega) (by omega)
    have i4 := it_len (n := 100 + (absN n : Int) % 100) (by omega) (by omega)
    have HD := Lib.hid (bytes_drop1 (Lib.itoa (100 + (absN n : Int) % 100)))
    have HW := Lib.hid (two_drop (absN n))
    have i5 := it_one (absN n)
    by_cases hs : n < 0
    · have HS := Lib.hid (sgn_neg hs)
      go_enter Tryz.func18, Tryz.ntmps18
      go_wp2_with (first | (go_at_call 32; refine (validLevel_any _ _).mono ?_; rintro e w' ⟨rfl, rfl⟩) | (go_at_call 33; refine (abs_any n (by omega) (by omega) _).mono ?_; rintro e w' ⟨rfl, rfl⟩) | (go_at_call 31; refine (implDecimal _ _ _ (HT.out.on (Below.mono (by repeat (first | exact Below.refl _ _ | assumption | apply bl_alloc | apply bl_drewN | apply Below.drew | (refine bl_set ?_ (by first | exact Nat.le_refl _ | (simp; done) | (simp; omega)) _) | (refine bl_trans ?_ (by assumption)))) hB)) (by omega) (by omega)).mono ?_; rintro e w1 ⟨rfl, hx1⟩))
      go_ret
      exact ⟨ret_bs (by rw [H.out, lvTxt, HS.out]; simp only [HD.out, HW.out, ByteArray.mk_append_mk]), by repeat (first | exact Below.refl _ _ | assumption | apply bl_alloc | apply bl_drewN | apply Below.drew | (refine bl_set ?_ (by first | exact Nat.le_refl _ | (simp; done) | (simp; omega)) _) | (refine bl_trans ?_ (by assumption)))⟩
    · have HS := Lib.hid (sgn_pos hs)
      go_enter Tryz.func18, Tryz.ntmps18
      go_wp2_with (first | (go_at_call 32; refine (validLevel_any _ _).mono ?_; rintro e w' ⟨rfl, rfl⟩) | (go_at_call 33; refine (abs_any n (by omega) (by omega) _).mono ?_; rintro e w' ⟨rfl, rfl⟩) | (go_at_call 31; refine (implDecimal _ _ _ (HT.out.on (Below.mono (by repeat (first | exact Below.refl _ _ | assumption | apply bl_alloc | apply bl_drewN | apply Below.drew | (refine bl_set ?_ (by first | exact Nat.le_refl _ | (simp; done) | (simp; omega)) _) | (refine bl_trans ?_ (by assumption)))) hB)) (by omega) (by omega)).mono ?_; rintro e w1 ⟨rfl, hx1⟩))
      go_ret
      exact ⟨ret_bs (by rw [H.out, lvTxt, HS.out]; simp only [HD.out, HW.out, ByteArray.mk_append_mk]), by repeat (first | exact Below.refl _ _ | assumption | apply bl_alloc | apply bl_drewN | apply Below.drew | (refine bl_set ?_ (by first | exact Nat.le_refl _ | (simp; done) | (simp; omega)) _) | (refine bl_trans ?_ (by assumption)))⟩
end Go.Proofs.YtcjfdfjimcapkaaGreatDoor
