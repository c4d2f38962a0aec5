/-
  Contracts on lands, the third part: volumes and cells below a level. They hold for every land of at most 1048576 heights.
-/
import Derived.Test.YtcgnnlgakfndaaaLand2
namespace Go.Proofs.Ytcgnnlgakfndaaa
set_option linter.unusedVariables false
open Go.RowKit

set_option maxHeartbeats 800000 in
theorem volume_any (w : World) (r c : Int) (A : Option Addr) (k : Nat) (hs : List Int) (y : Int) (hA : RC w A (ints hs)) (hm : hs.length ≤ 1048576) (hz : ∀ i, i < hs.length → -2000 ≤ gt hs i ∧ gt hs i ≤ 2000) (hlen : hs.length ≤ 144) (hy : -2001 ≤ y ∧ y ≤ 2000) :
    Calls Try.prog 46 #[.agg #[.int .i64 r, .int .i64 c, .slice A hs.length k], .int .i64 y] w fun e w' => e = .returned (.int .i64 (volTo hs y hs.length)) ∧ Below w.heap.size w w' := by
  have HA := Lib.hid hA
  clear hA
  have HZ := Lib.hid hz
  clear hz
  go_enter Try.func46, Try.ntmps46
  go_wp2
  go_loopg [5, 11] hs.length (fun m s i wr => ∃ j, j ≤ hs.length ∧ m = hs.length - j ∧ i = .int .i64 (j : Int) ∧ s = .int .i64 (volTo hs y j) ∧ Below w.heap.size w wr)
  case atStart => exact ⟨0, Nat.zero_le _, by omega, rfl, rfl, bl_alloc (Below.refl _ _) _⟩
  case round =>
    obtain ⟨j, hj, hgj, rfl, rfl, hb⟩ := hrel
    have HGK := Lib.hid hgj
    clear hgj
    have b1 := volTo_bd HZ.out hy j hj
    by_cases hlt : j < hs.length
    · obtain ⟨b, off, rfl, hbl, hcell⟩ := HA.out (by rw [ints_len]; omega)
      have h1 := (hb.cell (p := ⟨b, off + j, none⟩) hbl).trans (hcell j (by rw [ints_len]; exact hlt))
      rw [ints_get hs j hlt] at h1
      have h2 := HZ.out j hlt
      clear hcell
      by_cases hv : gt hs j < y
      · have HS := Lib.hid (vol_pos (hs := hs) (y := y) (k := j) (by omega))
        go_wp2
        go_roundg (hs.length - (j + 1))
        case measure => rw [HGK.out]; omega
        case rel => exact ⟨j + 1, by omega, rfl, by go_num, ret_v HS.out.symm, hb⟩
      · have HS := Lib.hid (vol_neg (hs := hs) (y := y) (k := j) (by omega))
        go_wp2
        go_roundg (hs.length - (j + 1))
        case measure => rw [HGK.out]; omega
        case rel => exact ⟨j + 1, by omega, rfl, by go_num, ret_v (by rw [HS.out]), hb⟩
    · obtain rfl : j = hs.length := by omega
      go_wp2
      go_ret
      exact ⟨rfl, hb⟩
set_option maxHeartbeats 800000 in
theorem l03Volume_any (w : World) (p : Nat) (A : Option Addr) (k : Nat) (hs : List Int) (y : Int) (hp2 : w.cell? ⟨p, 2, none⟩ = some (.slice A hs.length k)) (hA : RC w A (ints hs)) (hm : hs.length ≤ 1048576) (hz : ∀ i, i < hs.length → -2000 ≤ gt hs i ∧ gt hs i ≤ 2000) (hlen : hs.length ≤ 144) (hy : -2001 ≤ y ∧ y ≤ 2000) :
    Calls Try.prog 41 #[.pointer (some ⟨p, 0, none⟩), .int .i64 y] w fun e w' => e = .returned (.int .i64 (volTo hs y hs.length)) ∧ w = w' := by
  have HA := Lib.hid hA
  clear hA
  have HZ := Lib.hid hz
  clear hz
  go_enter Try.func41, Try.ntmps41
  go_wp2
  go_loopg [5, 6] hs.length (fun m s i wr => ∃ j, j ≤ hs.length ∧ m = hs.length - j ∧ i = .int .i64 (j : Int) ∧ s = .int .i64 (volTo hs y j) ∧ wr = w)
  case atStart => exact ⟨0, Nat.zero_le _, by omega, rfl, rfl, rfl⟩
  case round =>
    obtain ⟨j, hj, hgj, rfl, rfl, rfl⟩ := hrel
    have HGK := Lib.hid hgj
    clear hgj
    have b1 := volTo_bd HZ.out hy j hj
    by_cases hlt : j < hs.length
    · obtain ⟨b, off, rfl, hbl, hcell⟩ := HA.out (by rw [ints_len]; omega)
      have h1 := hcell j (by rw [ints_len]; exact hlt)
      rw [ints_get hs j hlt] at h1
      have h2 := HZ.out j hlt
      have h3 := mx_bd 0 (y - gt hs j)
      clear hcell
      go_wp2_with (go_at_call 34; refine (l00Max_any _ _ _).mono ?_; rintro e w' ⟨rfl, rfl⟩)
      go_roundg (hs.length - (j + 1))
      case measure => rw [HGK.out]; omega
      case rel => exact ⟨j + 1, by omega, rfl, by go_num, rfl, rfl⟩
    · obtain rfl : j = hs.length := by omega
      go_wp2
      go_ret
      exact ⟨rfl, rfl⟩
end Go.Proofs.Ytcgnnlgakfndaaa
