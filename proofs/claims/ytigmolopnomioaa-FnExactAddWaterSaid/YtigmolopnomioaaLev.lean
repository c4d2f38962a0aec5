/-
  Contracts on curves, the seventh part: the least level with a volume.
-/
import Derived.Test.YtigmolopnomioaaVol3
import Derived.Test.YtigmolopnomioaaLev2Plain
import Derived.Test.YtigmolopnomioaaFrac
namespace Go.Proofs.Ytigmolopnomioaa
open Go.RowKit

set_option maxHeartbeats 1600000 in
theorem implLevel (w : World) (A A' : Option Addr) (k k' : Nat) (ls vs : List Int) (v r : Int) (hA : RC w A (ints ls)) (hA' : RC w A' (ints vs)) (k0 : curveOk ls vs = true) (hr : IsLev ls vs v r) :
    Calls Try.prog 43 #[.agg #[.slice A ls.length k, .slice A' vs.length k'], .int .i64 v] w fun e w' => e = .returned (.int .i64 r) ∧ Below w.heap.size w w' := by
  have HA := Lib.hid hA
  have HB := Lib.hid hA'
  clear hA hA'
  have c0 := curveOk_of k0
  have n2 := c0.1
  have n12 := c0.2.1
  have y0 := (c0.2.2.2.1 0 (by omega)).1
  have y1 := (c0.2.2.2.1 (ls.length - 1) (by omega)).2
  clear c0
  have HR := Lib.hid hr
  have r0 := hr.low
  have r1 := hr.high
  clear hr
  obtain ⟨b, off, rfl, hbl, hcell⟩ := HA.out (by rw [ints_len]; omega)
  have g := hcell 0 (by rw [ints_len]; omega)
  rw [ints_get ls 0 (by omega), Nat.add_zero] at g
  clear hcell
  go_enter Try.func43, Try.ntmps43
  go_wp2
  go_quiet ((go_at_call 42; first | with_reducible exact quiet_eq (last_any _ _ _ _ ((HA.out.alloc _).drewN _) (by omega) (by omega)) | with_reducible exact quiet_add_eq (last_any _ _ _ _ ((HA.out.alloc _).drewN _) (by omega) (by omega))))
  go_wp2
  go_loopg [5, 6] (gt ls (ls.length - 1) - gt ls 0).toNat (fun m a i wr => ∃ lo hi : Int, gt ls 0 ≤ lo ∧ lo ≤ r ∧ r ≤ hi ∧ hi ≤ gt ls (ls.length - 1) ∧ m = (hi - lo).toNat ∧ a = .int .i64 lo ∧ i = .int .i64 hi ∧ wr.heap[w.heap.size]? = some (.cells #[.slice (some ⟨b, off, none⟩) ls.length k, .slice A' vs.length k'] 28 (0, 0)) ∧ Below w.heap.size w wr)
  case atStart => exact ⟨gt ls 0, gt ls (ls.length - 1), Int.le_refl _, r0, r1, Int.le_refl _, rfl, rfl, rfl, by first | (repeat (first | (refine blk_new ?_; (first | rfl | (simp; done) | (simp; omega))) | refine blk_drewN ?_ | refine blk_old ?_)) | (simp [go_sem]; done), by repeat (first | exact Below.refl _ _ | assumption | apply bl_alloc | apply bl_drewN | apply Below.drew | (refine bl_set ?_ (by first | exact Nat.le_refl _ | (simp; done) | (simp; omega)) _) | (refine bl_trans ?_ (by assumption)))⟩
  case round =>
    obtain ⟨lo, hi, h1, h2, h3, h4, hgj, rfl, rfl, kx, hb⟩ := hrel
    obtain ⟨x0, x1, xl⟩ := row_two kx
    have HGK := Lib.hid hgj
    clear hgj
    by_cases hlt : lo < hi
    · by_cases hv : v ≤ volAt ls vs ((lo + hi) / 2)
      · have hle : r ≤ (lo + hi) / 2 := by
          rcases Int.lt_or_le ((lo + hi) / 2) r with h5 | h5
          · have := HR.out.below ((lo + hi) / 2) (by omega) h5
            omega
          · exact h5
        go_wp2_with (first | (go_at_call 59; refine (floorDiv_any _ _ (by omega) (by omega) (by omega) _).mono ?_; rintro e w' ⟨rfl, rfl⟩) | (go_at_call 36; refine (implVolume _ _ _ _ _ ls vs _ (HA.out.below (by repeat (first | exact Below.refl _ _ | assumption | apply bl_alloc | apply bl_drewN | apply Below.drew | (refine bl_set ?_ (by first | exact Nat.le_refl _ | (simp; done) | (simp; omega)) _) | (refine bl_trans ?_ (by assumption))))) (HB.out.below (by repeat (first | exact Below.refl _ _ | assumption | apply bl_alloc | apply bl_drewN | apply Below.drew | (refine bl_set ?_ (by first | exact Nat.le_refl _ | (simp; done) | (simp; omega)) _) | (refine bl_trans ?_ (by assumption))))) k0 (by omega) (by omega)).mono ?_; rintro e w1 ⟨rfl, hb1⟩; have kx : w1.heap[w.heap.size]? = some (.cells #[.slice (some ⟨b, off, none⟩) ls.length k, .slice A' vs.length k'] 28 (0, 0)) := keep_blk (hb := hb1) (h := by first | exact kx | (repeat (first | (refine blk_new ?_; (first | rfl | (simp; done) | (simp; omega))) | refine blk_drewN ?_ | refine blk_old ?_))); obtain ⟨x0, x1, xl⟩ := row_two kx))
        go_roundg ((lo + hi) / 2 - lo).toNat
        case measure => rw [HGK.out]; omega
        case rel => exact ⟨lo, (lo + hi) / 2, h1, h2, hle, by omega, rfl, rfl, rfl, kx, by repeat (first | exact Below.refl _ _ | assumption | apply bl_alloc | apply bl_drewN | apply Below.drew | (refine bl_set ?_ (by first | exact Nat.le_refl _ | (simp; done) | (simp; omega)) _) | (refine bl_trans ?_ (by assumption)))⟩
      · have hle : (lo + hi) / 2 + 1 ≤ r := by
          rcases Int.lt_or_le ((lo + hi) / 2) r with h5 | h5
          · omega
          · have h6 := volAt_mono k0 HR.out.low h5
            have h7 := HR.out.full
            omega
        go_wp2_with (first | (go_at_call 59; refine (floorDiv_any _ _ (by omega) (by omega) (by omega) _).mono ?_; rintro e w' ⟨rfl, rfl⟩) | (go_at_call 36; refine (implVolume _ _ _ _ _ ls vs _ (HA.out.below (by repeat (first | exact Below.refl _ _ | assumption | apply bl_alloc | apply bl_drewN | apply Below.drew | (refine bl_set ?_ (by first | exact Nat.le_refl _ | (simp; done) | (simp; omega)) _) | (refine bl_trans ?_ (by assumption))))) (HB.out.below (by repeat (first | exact Below.refl _ _ | assumption | apply bl_alloc | apply bl_drewN | apply Below.drew | (refine bl_set ?_ (by first | exact Nat.le_refl _ | (simp; done) | (simp; omega)) _) | (refine bl_trans ?_ (by assumption))))) k0 (by omega) (by omega)).mono ?_; rintro e w1 ⟨rfl, hb1⟩; have kx : w1.heap[w.heap.size]? = some (.cells #[.slice (some ⟨b, off, none⟩) ls.length k, .slice A' vs.length k'] 28 (0, 0)) := keep_blk (hb := hb1) (h := by first | exact kx | (repeat (first | (refine blk_new ?_; (first | rfl | (simp; done) | (simp; omega))) | refine blk_drewN ?_ | refine blk_old ?_))); obtain ⟨x0, x1, xl⟩ := row_two kx))
        go_roundg (hi - ((lo + hi) / 2 + 1)).toNat
        case measure => rw [HGK.out]; omega
        case rel => exact ⟨(lo + hi) / 2 + 1, hi, by omega, hle, h3, h4, rfl, rfl, rfl, kx, by repeat (first | exact Below.refl _ _ | assumption | apply bl_alloc | apply bl_drewN | apply Below.drew | (refine bl_set ?_ (by first | exact Nat.le_refl _ | (simp; done) | (simp; omega)) _) | (refine bl_trans ?_ (by assumption)))⟩
    · obtain rfl : lo = r := by omega
      go_wp2
      go_ret
      exact ⟨rfl, hb⟩
set_option maxHeartbeats 1600000 in
theorem l05Level_any (w : World) (p : Nat) (A A' : Option Addr) (k k' : Nat) (ls vs : List Int) (v r : Int) (hp0 : w.cell? ⟨p, 0, none⟩ = some (.slice A ls.length k)) (hp1 : w.cell? ⟨p, 1, none⟩ = some (.slice A' vs.length k')) (hA : RC w A (ints ls)) (hA' : RC w A' (ints vs)) (k0 : curveOk ls vs = true) (hr : IsLev ls vs v r) :
    Calls Try.prog 40 #[.pointer (some ⟨p, 0, none⟩), .int .i64 v] w fun e w' => e = .returned (.int .i64 r) ∧ ∃ d, w' = w.drewN d := by
  have HA := Lib.hid hA
  have HB := Lib.hid hA'
  clear hA hA'
  have c0 := curveOk_of k0
  have n2 := c0.1
  have n12 := c0.2.1
  have y0 := (c0.2.2.2.1 0 (by omega)).1
  have y1 := (c0.2.2.2.1 (ls.length - 1) (by omega)).2
  clear c0
  have HR := Lib.hid hr
  have r0 := hr.low
  have r1 := hr.high
  clear hr
  obtain ⟨b, off, rfl, hbl, hcell⟩ := HA.out (by rw [ints_len]; omega)
  have g := hcell 0 (by rw [ints_len]; omega)
  have g2 := hcell (ls.length - 1) (by rw [ints_len]; omega)
  rw [ints_get ls 0 (by omega), Nat.add_zero] at g
  rw [ints_get ls _ (by omega)] at g2
  clear hcell
  go_enter Try.func40, Try.ntmps40
  go_wp2
  go_quiet (fail)
  go_wp2
  go_loopg [5, 6] (gt ls (ls.length - 1) - (gt ls 0 - 1)).toNat (fun m a i wr => ∃ lo hi : Int, gt ls 0 - 1 ≤ lo ∧ lo < r ∧ r ≤ hi ∧ hi ≤ gt ls (ls.length - 1) ∧ m = (hi - lo).toNat ∧ a = .int .i64 lo ∧ i = .int .i64 hi ∧ ∃ d, wr = w.drewN d)
  case atStart => exact ⟨gt ls 0 - 1, gt ls (ls.length - 1), Int.le_refl _, by omega, r1, Int.le_refl _, rfl, rfl, rfl, _, rfl⟩
  case round =>
    obtain ⟨lo, hi, h1, h2, h3, h4, hgj, rfl, rfl, d, rfl⟩ := hrel
    have HGK := Lib.hid hgj
    clear hgj
    by_cases hlt : 1 < hi - lo
    · by_cases hv : v ≤ volAt ls vs ((lo + hi) / 2)
      · have hle : r ≤ (lo + hi) / 2 := by
          rcases Int.lt_or_le ((lo + hi) / 2) r with h5 | h5
          · have := HR.out.below ((lo + hi) / 2) (by omega) h5
            omega
          · exact h5
        go_wp2_with (first | (go_at_call 58; refine (l02Floor_any _ _ (by omega) (by omega) (by omega) _).mono ?_; rintro e w' ⟨rfl, rfl⟩) | (go_at_call 32; refine (l05Volume_any _ p _ _ k k' ls vs _ (by first | exact hp0 | (simpa [go_sem] using hp0)) (by first | exact hp1 | (simpa [go_sem] using hp1)) (HA.out.below (by repeat (first | exact Below.refl _ _ | assumption | apply bl_alloc | apply bl_drewN | apply Below.drew | (refine bl_set ?_ (by first | exact Nat.le_refl _ | (simp; done) | (simp; omega)) _) | (refine bl_trans ?_ (by assumption))))) (HB.out.below (by repeat (first | exact Below.refl _ _ | assumption | apply bl_alloc | apply bl_drewN | apply Below.drew | (refine bl_set ?_ (by first | exact Nat.le_refl _ | (simp; done) | (simp; omega)) _) | (refine bl_trans ?_ (by assumption))))) k0 (by omega) (by omega)).mono ?_; rintro e w' ⟨rfl, dd, rfl⟩))
        go_roundg ((lo + hi) / 2 - lo).toNat
        case measure => rw [HGK.out]; omega
        case rel => exact ⟨lo, (lo + hi) / 2, h1, h2, hle, by omega, rfl, rfl, rfl, by first | exact ⟨_, rfl⟩ | exact ⟨_, World.drewN_drewN _ _ _⟩⟩
      · have hle : (lo + hi) / 2 < r := by
          rcases Int.lt_or_le ((lo + hi) / 2) r with h5 | h5
          · exact h5
          · have h6 := volAt_mono k0 HR.out.low h5
            have h7 := HR.out.full
            omega
        go_wp2_with (first | (go_at_call 58; refine (l02Floor_any _ _ (by omega) (by omega) (by omega) _).mono ?_; rintro e w' ⟨rfl, rfl⟩) | (go_at_call 32; refine (l05Volume_any _ p _ _ k k' ls vs _ (by first | exact hp0 | (simpa [go_sem] using hp0)) (by first | exact hp1 | (simpa [go_sem] using hp1)) (HA.out.below (by repeat (first | exact Below.refl _ _ | assumption | apply bl_alloc | apply bl_drewN | apply Below.drew | (refine bl_set ?_ (by first | exact Nat.le_refl _ | (simp; done) | (simp; omega)) _) | (refine bl_trans ?_ (by assumption))))) (HB.out.below (by repeat (first | exact Below.refl _ _ | assumption | apply bl_alloc | apply bl_drewN | apply Below.drew | (refine bl_set ?_ (by first | exact Nat.le_refl _ | (simp; done) | (simp; omega)) _) | (refine bl_trans ?_ (by assumption))))) k0 (by omega) (by omega)).mono ?_; rintro e w' ⟨rfl, dd, rfl⟩))
        go_roundg (hi - (lo + hi) / 2).toNat
        case measure => rw [HGK.out]; omega
        case rel => exact ⟨(lo + hi) / 2, hi, by omega, hle, h3, h4, rfl, rfl, rfl, by first | exact ⟨_, rfl⟩ | exact ⟨_, World.drewN_drewN _ _ _⟩⟩
    · obtain rfl : hi = r := by omega
      go_wp2
      go_ret
      exact ⟨rfl, by first | exact ⟨_, rfl⟩ | exact ⟨_, World.drewN_drewN _ _ _⟩⟩
end Go.Proofs.Ytigmolopnomioaa
