/-
  Contracts on decimal numerals: the reference's. They hold for every number of 64 bits.
-/
import Derived.Test.YtcjfdfjimcapkaaGreatDoorRows
import Derived.Test.YtcjfdfjimcapkaaGreatDoorDecPlain
import Derived.Test.YtcjfdfjimcapkaaGreatDoorHelp
namespace Go.Proofs.YtcjfdfjimcapkaaGreatDoor
set_option linter.unusedVariables false
open Go.RowKit

theorem infoByte : (Tryz.prog.info? 5).map (fun i => (i.zero, i.size, i.bytes)) = some (some (.int .u8 0), 1, 1) := by kernel_rfl
set_option maxRecDepth 100000 in
set_option maxHeartbeats 1600000 in
theorem l01Dec_pos (w : World) (N : Nat) (hN : N ≤ 9223372036854775807) :
    Calls Tryz.prog 19 #[.int .i64 (N : Int)] w fun e w' => e = .returned (.string ⟨(Lib.itoa (N : Int)).toArray⟩) ∧ Below w.heap.size w w' := by
  obtain ⟨i0, hi, hz0, hz1, hz2⟩ := info_parts infoByte
  have LB := decD_len (m := N) (by omega)
  have HN := Lib.hid hN
  clear hN
  go_enter Tryz.func19, Tryz.ntmps19
  go_wp2
  go_loopg [3, 4] N (fun m v k wr => ∃ (M : Nat) (l : List UInt8), m = M ∧ Hid (M ≤ 9223372036854775807) ∧ k = .int .i64 (M : Int) ∧ Hid (decD M ++ l = decD N) ∧ l.length ≤ 20 ∧ wr.ownsRow w.heap.size 5 1 v l.length (Lib.byteCells l) ∧ v ≠ .slice none 0 0 ∧ Below w.heap.size w wr)
  case atStart => exact ⟨N, [], rfl, HN, rfl, Lib.hid (by simp), by simp, own_none _ _ _ (Nat.le_refl _), by simp, by repeat (first | exact Below.refl _ _ | assumption | apply bl_alloc | apply bl_drewN | apply Below.drew | (refine bl_set ?_ (by first | exact Nat.le_refl _ | (simp; done) | (simp; omega)) _) | (refine bl_trans ?_ (by assumption)))⟩
  case round =>
    obtain ⟨M, l, hgk, hM, rfl, HL, hl, hown, hvn, hb⟩ := hrel
    have HGK := Lib.hid hgk
    clear hgk
    obtain ⟨g, c, rfl⟩ := own_form hown hvn
    have hM0 : (0 : Int) ≤ (M : Int) := by omega
    have hMI : (M : Int) ≤ 9223372036854775807 := by have := hM.out; omega
    by_cases h0 : M = 0
    · obtain rfl := h0
      have hd : l = decD N := by have := HL.out; rw [decD_zero] at this; exact this
      clear HL
      by_cases hN0 : N = 0
      · obtain rfl : l = [] := by rw [hd, hN0, decD_zero]
        have HN0 := Lib.hid hN0
        clear hN0 hd
        go_wp2
        go_ret
        exact ⟨by rw [HN0.out]; exact ret_str (l := [48]) itoa_zero.symm, hb⟩
      · have hlen : ¬ l.length = 0 := by rw [hd]; have := decD_ne (m := N) hN0; omega
        have hlb := beq0_no hlen
        have hcv := run_convert_bytes_back (P := Tryz.prog) wr 65 9 5 ⟨g, 0, none⟩ c l Tryz.underlying65 Tryz.underlying5 Tryz.underlying9 (fun j hj => hown.cells (g := g) rfl j _ (by simp [Lib.byteCells, hj]))
        have HD := Lib.hid hd
        clear hd
        go_wp2
        go_ret
        exact ⟨ret_str (itoa_pos hN0 HD.out), hb⟩
    · have HS := Lib.hid (decD_next h0 HL.out)
      have hls : l.length + 1 ≤ 20 := by have h := congrArg List.length HS.out; have h2 := LB; simp only [List.length_append, List.length_cons] at h; omega
      have hne2 := beq0_no h0
      all_goals
        go_wp2_with (at_builtin; refine wpList_append_own _ rfl _ _ 65 rfl w.heap.size 5 i0 (.int .u8 0) 1 1 Tryz.underlying65 hi hz0 hz1 hz2 rfl (by decide) _ _ _ rfl (own_byte _ _ _ hb.size) ⟨g, 0, none⟩ l.length c (Lib.byteCells l) rfl (by rw [bytes_len, Nat.mul_one]) (fun j u hj => (hown.alloc _).cells rfl j u hj) (byte_one l) (by unfold maxLen; omega) (by omega) (by have := hb.size; simp; omega) ?_; intro v' w1 hown' hgrow hne)
        have R1 := Lib.hid (own_dec (m := M) hown' (by omega))
        have R2 := Lib.hid (app_below (bl_alloc hb _) (own_byte _ _ _ hb.size) hgrow)
        have NE : v' ≠ .slice none 0 0 := fun h => (by have h1 := (hne.1 h).1; cases h1)
        clear hown' hgrow hne
        go_wp2
        go_roundg (M / 10)
        case measure => rw [HGK.out]; omega
        case rel => exact ⟨M / 10, _, rfl, Lib.hid (by have := hM.out; omega), by go_num, HS, by simpa using hls, R1.out, NE, R2.out⟩
set_option maxRecDepth 100000 in
set_option maxHeartbeats 1600000 in
theorem l01Dec_neg (w : World) (N : Nat) (hN : N ≤ 9223372036854775808) (hN0 : ¬ N = 0) :
    Calls Tryz.prog 19 #[.int .i64 (-(N : Int))] w fun e w' => e = .returned (.string ⟨(Lib.itoa (-(N : Int))).toArray⟩) ∧ Below w.heap.size w w' := by
  obtain ⟨i0, hi, hz0, hz1, hz2⟩ := info_parts infoByte
  have LB := decD_len (m := N) (by omega)
  have HN := Lib.hid hN
  clear hN
  go_enter Tryz.func19, Tryz.ntmps19
  go_wp2
  go_loopg [3, 4] N (fun m v k wr => ∃ (M : Nat) (l : List UInt8), m = M ∧ Hid (M ≤ 9223372036854775808) ∧ k = .int .i64 (-(M : Int)) ∧ Hid (decD M ++ l = decD N) ∧ l.length ≤ 20 ∧ wr.ownsRow w.heap.size 5 1 v l.length (Lib.byteCells l) ∧ v ≠ .slice none 0 0 ∧ Below w.heap.size w wr)
  case atStart => exact ⟨N, [], rfl, HN, rfl, Lib.hid (by simp), by simp, own_none _ _ _ (Nat.le_refl _), by simp, by repeat (first | exact Below.refl _ _ | assumption | apply bl_alloc | apply bl_drewN | apply Below.drew | (refine bl_set ?_ (by first | exact Nat.le_refl _ | (simp; done) | (simp; omega)) _) | (refine bl_trans ?_ (by assumption)))⟩
  case round =>
    obtain ⟨M, l, hgk, hM, rfl, HL, hl, hown, hvn, hb⟩ := hrel
    have HGK := Lib.hid hgk
    clear hgk
    obtain ⟨g, c, rfl⟩ := own_form hown hvn
    have hM0 : (0 : Int) ≤ (M : Int) := by omega
    have hMI : (M : Int) ≤ 9223372036854775808 := by have := hM.out; omega
    by_cases h0 : M = 0
    · obtain rfl := h0
      have hd : l = decD N := by have := HL.out; rw [decD_zero] at this; exact this
      clear HL
      have hlen : ¬ l.length = 0 := by rw [hd]; have := decD_ne (m := N) hN0; omega
      have hlb := beq0_no hlen
      have hNn : -(N : Int) < 0 := by omega
      have hcv := run_convert_bytes_back (P := Tryz.prog) wr 65 9 5 ⟨g, 0, none⟩ c l Tryz.underlying65 Tryz.underlying5 Tryz.underlying9 (fun j hj => hown.cells (g := g) rfl j _ (by simp [Lib.byteCells, hj]))
      have HD := Lib.hid hd
      clear hd
      go_wp2
      go_ret
      exact ⟨ret_bs (by rw [← itoa_minus (by omega) HD.out]; simp only [ByteArray.mk_append_mk]; rfl), hb⟩
    · have HS := Lib.hid (decD_next h0 HL.out)
      have hls : l.length + 1 ≤ 20 := by have h := congrArg List.length HS.out; have h2 := LB; simp only [List.length_append, List.length_cons] at h; omega
      have q1 : (-(M : Int)).tmod 10 = -((M : Int) % 10) := by rw [Int.neg_tmod, Int.tmod_eq_emod_of_nonneg (by omega)]
      have q2 : (-(M : Int)).tdiv 10 = -((M : Int) / 10) := by rw [Int.neg_tdiv, Int.tdiv_eq_ediv_of_nonneg (by omega)]
      have hne2 : ((-(M : Int)) == 0) = false := by simp; omega
      by_cases hdg : -((M : Int) % 10) < 0
      all_goals
        go_wp2_with (at_builtin; refine wpList_append_own _ rfl _ _ 65 rfl w.heap.size 5 i0 (.int .u8 0) 1 1 Tryz.underlying65 hi hz0 hz1 hz2 rfl (by decide) _ _ _ rfl (own_byte _ _ _ hb.size) ⟨g, 0, none⟩ l.length c (Lib.byteCells l) rfl (by rw [bytes_len, Nat.mul_one]) (fun j u hj => (hown.alloc _).cells rfl j u hj) (byte_one l) (by unfold maxLen; omega) (by omega) (by have := hb.size; simp; omega) ?_; intro v' w1 hown' hgrow hne)
        have R1 := Lib.hid (own_dec (m := M) hown' (by omega))
        have R2 := Lib.hid (app_below (bl_alloc hb _) (own_byte _ _ _ hb.size) hgrow)
        have NE : v' ≠ .slice none 0 0 := fun h => (by have h1 := (hne.1 h).1; cases h1)
        clear hown' hgrow hne
        go_wp2
        go_roundg (M / 10)
        case measure => rw [HGK.out]; omega
        case rel => exact ⟨M / 10, _, rfl, Lib.hid (by have := hM.out; omega), by go_num, HS, by simpa using hls, R1.out, NE, R2.out⟩
theorem l01Dec_any (w : World) (n : Int) (h0 : -9223372036854775808 ≤ n) (h1 : n ≤ 9223372036854775807) :
    Calls Tryz.prog 19 #[.int .i64 n] w fun e w' => e = .returned (.string ⟨(Lib.itoa n).toArray⟩) ∧ Below w.heap.size w w' := by
  by_cases h : 0 ≤ n
  · obtain ⟨N, rfl⟩ := Int.eq_ofNat_of_zero_le h
    exact l01Dec_pos w N (by omega)
  · obtain ⟨N, hN⟩ := Int.eq_ofNat_of_zero_le (show 0 ≤ -n by omega)
    obtain rfl : n = -(N : Int) := by omega
    exact l01Dec_neg w N (by omega) (by omega)
end Go.Proofs.YtcjfdfjimcapkaaGreatDoor
