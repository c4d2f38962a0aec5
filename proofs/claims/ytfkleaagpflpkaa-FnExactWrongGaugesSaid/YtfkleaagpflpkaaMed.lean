/-
  Contracts of the middle one of sorted numbers: the reference's. They hold for every list of at most 1048576 numbers.
-/
import Derived.Test.YtfkleaagpflpkaaClone
import Derived.Test.YtfkleaagpflpkaaMean
import Derived.Test.YtfkleaagpflpkaaMedPlain
namespace Go.Proofs.Ytfkleaagpflpkaa
set_option linter.unusedVariables false
open Go.RowKit
theorem own_swp {B E g k : Nat} {w : World} {M : List Int} (h : OwnC B E w (some ⟨g, 0, none⟩) (ints M)) (hk : k + 1 < M.length) :
    OwnC B E ((w.setCell ⟨g, k + 1, none⟩ (.int .i64 (gt M k))).setCell ⟨g, k, none⟩ (.int .i64 (gt M (k + 1)))) (some ⟨g, 0, none⟩) (ints (swp M (k + 1))) := by
  obtain ⟨g', cur, T, hg', l1, l2, hg, hc⟩ := h (by rw [ints_len]; omega)
  cases hg'
  have S1 := own_set (i := k + 1) (gt M k) l1 l2 hg hc hk
  obtain ⟨g', cur', T', hg', l1, l2, hg, hc⟩ := S1 (by rw [ints_len, List.length_set]; omega)
  cases hg'
  exact own_set (i := k) (gt M (k + 1)) l1 l2 hg hc (by rw [List.length_set]; omega)
set_option maxHeartbeats 6400000 in
theorem l02Sorted_any (w : World) (A : Option Addr) (c : Nat) (hs : List Int) (hA : RC w A (ints hs)) (hm : hs.length ≤ 1048576) (h1 : 1 ≤ hs.length) :
    Calls Try.prog 33 #[.slice A hs.length c] w (NewInts (srt hs) w) := by
  have HA := Lib.hid hA
  clear hA
  go_enter Try.func33, Try.ntmps33
  go_wp2_with (go_at_call 41; refine (l00Own_any _ A c hs HA.out hm h1).mono ?_; rintro e w2 ⟨A1, k4, rfl, ho, hb2⟩)
  obtain ⟨g, cur, T, rfl, g1, g2, hg, hc⟩ := ho (by rw [ints_len]; omega)
  have HU := Lib.hid (show OwnC w.heap.size w2.heap.size w2 (some ⟨g, 0, none⟩) (ints hs) from fun _ => ⟨g, cur, T, rfl, g1, g2, hg, hc⟩)
  have HB2 := Lib.hid hb2
  clear ho hg hc hb2 g2
  go_loopg [4] (hs.length - 1) (fun m iv wr => ∃ i L, 1 ≤ i ∧ i ≤ hs.length ∧ m = hs.length - i ∧ iv = .int .i64 ((i : Nat) : Int) ∧ L.length = hs.length ∧ Hid (SrtTo hs L i) ∧ OwnC w.heap.size wr.heap.size wr (some ⟨g, 0, none⟩) (ints L) ∧ Below w.heap.size w wr)
  case atStart => exact ⟨1, hs, Nat.le_refl _, h1, rfl, rfl, rfl, Lib.hid (srt_first hs), HU.out, HB2.out⟩
  case round =>
    clear HU HB2
    obtain ⟨i, L, hi1, hi, hgk, rfl, hL, HS, ho, hb⟩ := hrel
    have HGK := Lib.hid hgk
    have HO := Lib.hid ho
    have HB := Lib.hid hb
    clear hgk ho hb
    by_cases hlt : i < hs.length
    · go_wp2
      go_loopg [5] i (fun m kv wr' => ∃ k M, k ≤ i ∧ m = k ∧ kv = .int .i64 ((k : Nat) : Int) ∧ M.length = hs.length ∧ Hid (InsI hs M i k) ∧ OwnC w.heap.size wr'.heap.size wr' (some ⟨g, 0, none⟩) (ints M) ∧ Below w.heap.size w wr')
      case atStart => exact ⟨i, L, Nat.le_refl _, rfl, rfl, hL, Lib.hid (ins_start HS.out), HO.out, HB.out⟩
      case round =>
        clear HO HB HS
        obtain ⟨k, M, hk, hgk, rfl, hM, HI, ho, hb⟩ := hrel
        have HGK2 := Lib.hid hgk
        have HO := Lib.hid ho
        have HB := Lib.hid hb
        clear hgk hb
        obtain ⟨g', cur, T, hg', gl1, gl2, hg, hc⟩ := ho (by rw [ints_len]; omega)
        cases hg'
        clear ho
        rcases k with _ | k
        · have HD := Lib.hid (ins_done HI.out (.inl rfl))
          go_wp2
          go_quiet (fail)
          go_wp2
          go_roundg (hs.length - (i + 1))
          case measure => rw [HGK.out]; omega
          case rel => exact ⟨i + 1, M, by omega, by omega, rfl, by go_num, hM, HD, by first | exact HO.out | exact HO.out.drewN _, by first | exact HB.out | exact bl_drewN HB.out _⟩
        · have f1 : wr.cell? ⟨g, k, none⟩ = some (.int .i64 (gt M k)) := by
            rw [cell_of_row wr g k cur T (0, 0) hg, hc k (by rw [ints_len]; omega), ints_get _ _ (by omega)]
          have f2 : wr.cell? ⟨g, k + 1, none⟩ = some (.int .i64 (gt M (k + 1))) := by
            rw [cell_of_row wr g (k + 1) cur T (0, 0) hg, hc (k + 1) (by rw [ints_len]; omega), ints_get _ _ (by omega)]
          have z1 : wr.frozen? ⟨g, k, none⟩ = false := frozen_of_row wr g k cur T hg
          have z2 : wr.frozen? ⟨g, k + 1, none⟩ = false := frozen_of_row wr g (k + 1) cur T hg
          have HG := Lib.hid hg
          have HC := Lib.hid hc
          clear hg hc
          by_cases hv : gt M (k + 1) < gt M k
          · go_wp2
            go_quiet (fail)
            go_wp2
            go_roundg k
            case measure => rw [HGK2.out]; omega
            case rel => exact ⟨k, swp M (k + 1), by omega, rfl, rfl, by rw [swp_len]; exact hM, Lib.hid (ins_step HI.out (by omega) (by omega) hv), (own_swp (HO.out.drewN nq) (by omega)).wide (Nat.le_refl _) (by simp), bl_set (bl_set (bl_drewN HB.out nq) g1 _) g1 _⟩
          · have HD := Lib.hid (ins_done HI.out (.inr (by simpa using hv)))
            go_wp2
            go_quiet (fail)
            go_wp2
            go_roundg (hs.length - (i + 1))
            case measure => rw [HGK.out]; omega
            case rel => exact ⟨i + 1, M, by omega, by omega, rfl, by go_num, hM, HD, by first | exact HO.out | exact HO.out.drewN _, by first | exact HB.out | exact bl_drewN HB.out _⟩
    · obtain rfl : i = hs.length := by omega
      have e := srt_full (by rw [hL]; exact HS.out)
      subst e
      go_wp2
      go_ret
      exact ⟨_, k4, by rw [srt_len]; rfl, HO.out, HB.out⟩
-- printed by gen/med.py
theorem mid_lt {n : Nat} (h : 1 ≤ n) : (n - 1) / 2 < n := by omega
theorem mid_int {n : Nat} (h : 1 ≤ n) : ((n : Int) - 1).tdiv 2 = (((n - 1) / 2 : Nat) : Int) := by
  obtain ⟨m, rfl⟩ : ∃ m, n = m + 1 := ⟨n - 1, by omega⟩
  have : ((m + 1 : Nat) : Int) - 1 = (m : Int) := by omega
  rw [this]
  rfl
theorem ret_med {v v' : Int} {b b' : Int} (h1 : v = v') (h2 : b = b') : Ending.returned (.tuple #[.int .i64 v, .int .i64 b]) = .returned (.tuple #[.int .i64 v', .int .i64 b']) := by rw [h1, h2]
set_option maxHeartbeats 1600000 in
theorem l02Middle_any (w : World) (A : Option Addr) (c : Nat) (hs : List Int) (hA : RC w A (ints hs)) (hm : hs.length ≤ 1048576) (h1 : 1 ≤ hs.length) :
    Calls Try.prog 17 #[.slice A hs.length c] w fun e w' => e = .returned (.int .i64 (medV hs)) ∧ Below w.heap.size w w' := by
  have HA := Lib.hid hA
  clear hA
  have hlt := mid_lt h1
  have hmi := mid_int h1
  go_enter Try.func17, Try.ntmps17
  go_wp2_with (go_at_call 33; refine (l02Sorted_any _ A c hs HA.out hm h1).mono ?_; rintro e w2 ⟨A1, k4, rfl, ho, hb2⟩; obtain ⟨g, cur, T, rfl, g1, g2, hg, hc⟩ := ho (by rw [ints_len, srt_len]; omega); rw [srt_len]; have f1 : w2.cell? ⟨g, (hs.length - 1) / 2, none⟩ = some (.int .i64 (medV hs)) := (by rw [cell_of_row w2 g _ cur T (0, 0) hg, hc _ (by rw [ints_len, srt_len]; exact hlt), ints_get _ _ (by rw [srt_len]; exact hlt)]; rfl); clear ho hg hc)
  go_ret
  exact ⟨rfl, hb2⟩
set_option maxHeartbeats 800000 in
theorem specMedian (w : World) (A : Option Addr) (c : Nat) (zs : List Int) (hA : RC w A (ints zs)) (hm : zs.length ≤ 1048576) :
    Calls Try.prog 6 #[.slice A zs.length c] w fun e w' => e = .returned (.tuple #[.int .i64 (medX zs), .int .i64 (medC zs)]) ∧ Below w.heap.size w w' := by
  have HA := Lib.hid hA
  clear hA
  cases hv : gaugesOk zs
  · have H := Lib.hid (med_bad hv)
    have HC := Lib.hid (show (if lvlCode zs = 0 ∧ zs.length = 0 then (3 : Int) else lvlCode zs) = 2 by rw [lvlCode_false hv]; simp)
    go_enter Try.func6, Try.ntmps6
    go_wp2_with ((go_at_call 16; refine (l02Some_any _ _ _ _ HA.out hm 2 HC.out).mono ?_; rintro e w' ⟨rfl, rfl⟩))
    go_ret2
    exact ⟨ret_med H.out.1.symm H.out.2.symm, by repeat (first | exact Below.refl _ _ | assumption | apply bl_alloc | apply bl_drewN | apply Below.drew | (refine bl_set ?_ (by first | exact Nat.le_refl _ | (simp; done) | (simp; omega)) _) | (refine bl_trans ?_ (by assumption)))⟩
  · by_cases h0 : zs.length = 0
    · have H := Lib.hid (med_none hv h0)
      have HC := Lib.hid (someCode_none hv h0)
      have hq := beq0_yes h0
      clear h0
      go_enter Try.func6, Try.ntmps6
      go_wp2_with ((go_at_call 16; refine (l02Some_any _ _ _ _ HA.out hm 3 HC.out).mono ?_; rintro e w' ⟨rfl, rfl⟩))
      go_ret2
      exact ⟨ret_med H.out.1.symm H.out.2.symm, by repeat (first | exact Below.refl _ _ | assumption | apply bl_alloc | apply bl_drewN | apply Below.drew | (refine bl_set ?_ (by first | exact Nat.le_refl _ | (simp; done) | (simp; omega)) _) | (refine bl_trans ?_ (by assumption)))⟩
    · have H := Lib.hid (med_ok hv h0)
      have HC := Lib.hid (show (if lvlCode zs = 0 ∧ zs.length = 0 then (3 : Int) else lvlCode zs) = 0 by rw [lvlCode_true hv]; simp [h0])
      have hq := beq0_no h0
      have hpos : 1 ≤ zs.length := by omega
      go_enter Try.func6, Try.ntmps6
      go_wp2_with (first | (go_at_call 16; refine (l02Some_any _ _ _ _ HA.out hm 0 HC.out).mono ?_; rintro e w' ⟨rfl, rfl⟩) | (go_at_call 17; refine (l02Middle_any _ _ _ _ HA.out hm hpos).mono ?_; rintro e w1 ⟨rfl, hb1⟩))
      go_ret2
      exact ⟨ret_med H.out.1.symm H.out.2.symm, by repeat (first | exact Below.refl _ _ | assumption | apply bl_alloc | apply bl_drewN | apply Below.drew | (refine bl_set ?_ (by first | exact Nat.le_refl _ | (simp; done) | (simp; omega)) _) | (refine bl_trans ?_ (by assumption)))⟩
end Go.Proofs.Ytfkleaagpflpkaa
