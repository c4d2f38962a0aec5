/-
  Contracts on lands, the third part: volumes and cells below a level. They hold for every land of at most 1048576 heights.
-/
import Derived.Test.YtnhdhjijdcdilaaLand2
namespace Go.Proofs.Ytnhdhjijdcdilaa
set_option linter.unusedVariables false
open Go.RowKit

set_option maxHeartbeats 800000 in
theorem volume_any (w : World) (r c : Int) (A : Option Addr) (k : Nat) (hs : List Int) (y : Int) (hA : RC w A (ints hs)) (hm : hs.length ≤ 1048576) (hz : ∀ i, i < hs.length → -2000 ≤ gt hs i ∧ gt hs i ≤ 2000) (hlen : hs.length ≤ 144) (hy : -2001 ≤ y ∧ y ≤ 2000) :
    Calls Try.prog 68 #[.agg #[.int .i64 r, .int .i64 c, .slice A hs.length k], .int .i64 y] w fun e w' => e = .returned (.int .i64 (volTo hs y hs.length)) ∧ Below w.heap.size w w' := by
  have HA := Lib.hid hA
  clear hA
  have HZ := Lib.hid hz
  clear hz
  go_enter Try.func68, Try.ntmps68
  go_wp2
  go_loopg [5, 11] hs.length (fun m s i wr => ∃ j, j ≤ hs.length ∧ m = hs.length - j ∧ i = .int .i64 (j : Int) ∧ s = .int .i64 (volTo hs y j) ∧ Below w.heap.size w wr)
  case atStart => exact ⟨0, Nat.zero_le _, by omega, rfl, rfl, bl_alloc (Below.refl _ _) _⟩
  case round =>
    obtain ⟨j, hj, hgj, rfl, rfl, hb⟩ := hrel
    have HGK := Lib.hid hgj
    clear hgj
    have b1 := volTo_bd HZ.out hy j hj
    by_cases hlt : j < hs.length
    · obtain ⟨b, off, rfl, hbl, hcell⟩ := HA.out (by rw [ints_len]; omega)
      have h1 := (hb.cell (p := ⟨b, off + j, none⟩) hbl).trans (hcell j (by rw [ints_len]; exact hlt))
      rw [ints_get hs j hlt] at h1
      have h2 := HZ.out j hlt
      clear hcell
      by_cases hv : gt hs j < y
      · have HS := Lib.hid (vol_pos (hs := hs) (y := y) (k := j) (by omega))
        go_wp2
        go_roundg (hs.length - (j + 1))
        case measure => rw [HGK.out]; omega
        case rel => exact ⟨j + 1, by omega, rfl, by go_num, ret_v HS.out.symm, hb⟩
      · have HS := Lib.hid (vol_neg (hs := hs) (y := y) (k := j) (by omega))
        go_wp2
        go_roundg (hs.length - (j + 1))
        case measure => rw [HGK.out]; omega
        case rel => exact ⟨j + 1, by omega, rfl, by go_num, ret_v (by rw [HS.out]), hb⟩
    · obtain rfl : j = hs.length := by omega
      go_wp2
      go_ret
      exact ⟨rfl, hb⟩
set_option maxHeartbeats 800000 in
theorem l03Volume_any (w : World) (p : Nat) (A : Option Addr) (k : Nat) (hs : List Int) (y : Int) (hp2 : w.cell? ⟨p, 2, none⟩ = some (.slice A hs.length k)) (hA : RC w A (ints hs)) (hm : hs.length ≤ 1048576) (hz : ∀ i, i < hs.length → -2000 ≤ gt hs i ∧ gt hs i ≤ 2000) (hlen : hs.length ≤ 144) (hy : -2001 ≤ y ∧ y ≤ 2000) :
    Calls Try.prog 64 #[.pointer (some ⟨p, 0, none⟩), .int .i64 y] w fun e w' => e = .returned (.int .i64 (volTo hs y hs.length)) ∧ w = w' := by
  have HA := Lib.hid hA
  clear hA
  have HZ := Lib.hid hz
  clear hz
  go_enter Try.func64, Try.ntmps64
  go_wp2
  go_loopg [5, 6] hs.length (fun m s i wr => ∃ j, j ≤ hs.length ∧ m = hs.length - j ∧ i = .int .i64 (j : Int) ∧ s = .int .i64 (volTo hs y j) ∧ wr = w)
  case atStart => exact ⟨0, Nat.zero_le _, by omega, rfl, rfl, rfl⟩
  case round =>
    obtain ⟨j, hj, hgj, rfl, rfl, rfl⟩ := hrel
    have HGK := Lib.hid hgj
    clear hgj
    have b1 := volTo_bd HZ.out hy j hj
    by_cases hlt : j < hs.length
    · obtain ⟨b, off, rfl, hbl, hcell⟩ := HA.out (by rw [ints_len]; omega)
      have h1 := hcell j (by rw [ints_len]; exact hlt)
      rw [ints_get hs j hlt] at h1
      have h2 := HZ.out j hlt
      have h3 := mx_bd 0 (y - gt hs j)
      clear hcell
      go_wp2_with (go_at_call 56; refine (l00Max_any _ _ _).mono ?_; rintro e w' ⟨rfl, rfl⟩)
      go_roundg (hs.length - (j + 1))
      case measure => rw [HGK.out]; omega
      case rel => exact ⟨j + 1, by omega, rfl, by go_num, rfl, rfl⟩
    · obtain rfl : j = hs.length := by omega
      go_wp2
      go_ret
      exact ⟨rfl, rfl⟩
set_option maxHeartbeats 400000 in
theorem low1_any (i p q : Nat) (W : World) (A : Option Addr) (k : Nat) (hs : List Int) (y : Int) (hp : W.cell? ⟨p, 2, none⟩ = some (.slice A hs.length k)) (hq : W.cell? ⟨q, 0, none⟩ = some (.int .i64 y)) (hA : RC W A (ints hs)) (hi : i < hs.length) (hm : hs.length ≤ 1048576) :
    Calls Try.prog 73 #[.int .i64 (i : Int), .pointer (some ⟨p, 0, none⟩), .pointer (some ⟨q, 0, none⟩)] W fun e w' => e = .returned (.bool (isAt hs y i)) ∧ ∃ d, w' = W.drewN d := by
  obtain ⟨b, off, rfl, hbl, hcell⟩ := hA (by rw [ints_len]; omega)
  have h1 := hcell i (by rw [ints_len]; exact hi)
  rw [ints_get hs i hi] at h1
  clear hcell
  go_enter Try.func73, Try.ntmps73
  go_wp2
  go_quiet (fail)
  go_wp2
  go_ret
  exact ⟨rfl, _, rfl⟩
set_option maxHeartbeats 800000 in
theorem idxLow (w : World) (p q : Nat) (A : Option Addr) (k0 : Nat) (hs : List Int) (y : Int) (hp : w.cell? ⟨p, 2, none⟩ = some (.slice A hs.length k0)) (hq : w.cell? ⟨q, 0, none⟩ = some (.int .i64 y)) (hpl : p < w.heap.size) (hql : q < w.heap.size) (hA : RC w A (ints hs)) (hm : hs.length ≤ 1048576) :
    Calls Try.prog 71 #[.int .i64 (hs.length : Int), .func (.func 73) #[] #[.pointer (some ⟨p, 0, none⟩), .pointer (some ⟨q, 0, none⟩)]] w (NewInts (idxTo (isAt hs y) hs.length) w) := by
  have HA := Lib.hid hA
  have HP := Lib.hid hp
  have HQ := Lib.hid hq
  clear hA hp hq
  obtain ⟨i0, hi, hz0, hz1, hz2⟩ := info_parts infoInt
  go_enter Try.func71, Try.ntmps71
  go_wp2
  go_loopg [5, 6] hs.length (fun m v i wr => AppRel 2 (idxTo (isAt hs y)) hs.length w m i v wr)
  case atStart => exact ⟨0, Nat.zero_le _, by omega, rfl, own_lit _ (Below.refl _ _), bl_alloc (Below.refl _ _) _⟩
  case round =>
    obtain ⟨k, hk, hgk, rfl, hown, hb⟩ := hrel
    have HGK := Lib.hid hgk
    clear hgk
    have hlen := idxTo_len (isAt hs y) k
    by_cases hlt : k < hs.length
    · skip
      cases hq : (isAt hs y) k
      · have HS := Lib.hid (idxTo_no hq)
        go_wp2_with (go_at_call 73; refine (low1_any _ p q _ A k0 hs y ((hb.cell (p := ⟨p, 2, none⟩) hpl).trans HP.out) ((hb.cell (p := ⟨q, 0, none⟩) hql).trans HQ.out) (HA.out.below hb) hlt hm).mono ?_; rintro e w' ⟨rfl, d, rfl⟩)
        go_roundg (hs.length - (k + 1))
        case measure => rw [HGK.out]; omega
        case rel => exact ⟨k + 1, by omega, rfl, by go_num, by rw [HS.out]; exact own_dr hown _, bl_drewN hb _⟩
      · have HS := Lib.hid (idxTo_yes hq)
        go_wp2_with (first | (go_at_call 73; refine (low1_any _ p q _ A k0 hs y ((hb.cell (p := ⟨p, 2, none⟩) hpl).trans HP.out) ((hb.cell (p := ⟨q, 0, none⟩) hql).trans HQ.out) (HA.out.below hb) hlt hm).mono ?_; rintro e w' ⟨rfl, d, rfl⟩) | (at_builtin; refine wpList_append_own _ rfl _ _ 23 rfl w.heap.size 2 i0 (.int .i64 0) 1 8 Try.underlying23 hi hz0 hz1 hz2 rfl (by decide) _ _ _ rfl ((own_dr hown _).alloc _) ⟨wr.heap.size, 0, none⟩ 1 1 [.int .i64 (k : Int)] rfl rfl (by first | exact app_news (heap_alloc_new _ _) | exact app_news (heap_alloc_new wr _)) (app_one _) (by have := hlen; unfold maxLen; omega) (by have := hlen; omega) (by have := hb.size; simp; omega) ?_; intro v' w1 hown' hgrow _))
        have R1 := Lib.hid (app_own hown' HS.out)
        have R2 := Lib.hid (app_below (bl_alloc (bl_drewN hb _) _) ((own_dr hown _).alloc _) hgrow)
        go_roundg (hs.length - (k + 1))
        case measure => rw [HGK.out]; omega
        case rel => exact ⟨k + 1, by omega, rfl, by go_num, R1.out, R2.out⟩
    · obtain rfl : k = hs.length := by omega
      go_wp2
      go_ret
      exact new_end hown hb
end Go.Proofs.Ytnhdhjijdcdilaa
