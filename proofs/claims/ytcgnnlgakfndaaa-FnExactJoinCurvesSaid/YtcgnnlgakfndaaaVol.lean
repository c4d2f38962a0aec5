/-
  Contracts on curves, the third part: the part with a level, volumes, levels of a curve. They hold for valid curves.
-/
import Derived.Test.YtcgnnlgakfndaaaCurve2
import Derived.Test.YtcgnnlgakfndaaaVolPlain
namespace Go.Proofs.Ytcgnnlgakfndaaa
set_option linter.unusedVariables false
open Go.RowKit

set_option maxHeartbeats 800000 in
theorem part_any (w : World) (A A' : Option Addr) (k k' : Nat) (ls vs : List Int) (y : Int) (q : Nat) (hA : RC w A (ints ls)) (hA' : RC w A' (ints vs)) (hq : IsKnot ls y q) (hm : ls.length ≤ 12) :
    Calls Try.prog 72 #[.agg #[.slice A ls.length k, .slice A' vs.length k'], .int .i64 y] w fun e w' => e = .returned (.int .i64 (q : Int)) ∧ Below w.heap.size w w' := by
  have HA := Lib.hid hA
  have HB := Lib.hid hA'
  clear hA hA'
  have HQ := Lib.hid hq
  have hlast := hq.last
  clear hq
  go_enter Try.func72, Try.ntmps72
  go_wp2
  go_loopg [5, 6] ls.length (fun m a i wr => ∃ j, j + 1 ≤ ls.length ∧ m = ls.length - j ∧ i = .int .i64 (j : Int) ∧ a = .int .i64 (atN q j : Int) ∧ wr.cell? ⟨w.heap.size, 0, none⟩ = some (.slice A ls.length k) ∧ Below w.heap.size w wr)
  case atStart => exact ⟨0, by omega, by omega, rfl, rfl, by simp [go_sem], by repeat (first | exact Below.refl _ _ | assumption | apply bl_alloc | apply bl_drewN | apply Below.drew | (refine bl_set ?_ (by first | exact Nat.le_refl _ | (simp; done) | (simp; omega)) _) | (refine bl_trans ?_ (by assumption)))⟩
  case round =>
    obtain ⟨j, hj, hgj, rfl, rfl, hc, hb⟩ := hrel
    have HGK := Lib.hid hgj
    clear hgj
    by_cases hlt : j + 1 < ls.length
    · obtain ⟨b, off, rfl, hbl, hcell⟩ := HA.out (by rw [ints_len]; omega)
      have h1 := (hb.cell (p := ⟨b, off + j, none⟩) hbl).trans (hcell j (by rw [ints_len]; omega))
      rw [ints_get ls j (by omega)] at h1
      clear hcell
      by_cases hjq : j ≤ q
      · have HS := Lib.hid (atN_step hjq)
        have hy := HQ.out.lo j hjq
        go_wp2
        go_roundg (ls.length - (j + 1))
        case measure => rw [HGK.out]; omega
        case rel => exact ⟨j + 1, by omega, rfl, by go_num, by rw [HS.out], hc, hb⟩
      · have HS := Lib.hid (atN_stay hjq)
        have hy := HQ.out.hi j (by omega) hlt
        go_wp2
        go_roundg (ls.length - (j + 1))
        case measure => rw [HGK.out]; omega
        case rel => exact ⟨j + 1, by omega, rfl, by go_num, by rw [HS.out], hc, hb⟩
    · have HE := Lib.hid (atN_end (k := q) (n := j) (by omega))
      go_wp2
      go_ret
      exact ⟨ret_int (by rw [HE.out]), hb⟩
set_option maxHeartbeats 800000 in
theorem l05Knot_any (w : World) (p : Nat) (A : Option Addr) (k : Nat) (ls : List Int) (y : Int) (q : Nat) (hp0 : w.cell? ⟨p, 0, none⟩ = some (.slice A ls.length k)) (hA : RC w A (ints ls)) (hq : IsKnot ls y q) (hm : ls.length ≤ 12) :
    Calls Try.prog 71 #[.pointer (some ⟨p, 0, none⟩), .int .i64 y] w fun e w' => e = .returned (.int .i64 (q : Int)) ∧ w = w' := by
  have HA := Lib.hid hA
  have HQ := Lib.hid hq
  have hlast := hq.last
  clear hA hq
  go_enter Try.func71, Try.ntmps71
  go_wp2
  go_loopg [5] (q + 1) (fun m i wr => ∃ j, j ≤ q ∧ m = q + 1 - j ∧ i = .int .i64 (j : Int) ∧ wr = w)
  case atStart => exact ⟨0, Nat.zero_le _, by omega, rfl, rfl⟩
  case round =>
    obtain ⟨j, hj, hgj, rfl, rfl⟩ := hrel
    have HGK := Lib.hid hgj
    clear hgj
    obtain ⟨b, off, rfl, hbl, hcell⟩ := HA.out (by rw [ints_len]; omega)
    have h1 := hcell (j + 1) (by rw [ints_len]; omega)
    rw [ints_get ls (j + 1) (by omega)] at h1
    clear hcell
    by_cases hlt : j < q
    · have hy := HQ.out.lo (j + 1) (by omega)
      go_wp2
      go_roundg (q + 1 - (j + 1))
      case measure => rw [HGK.out]; omega
      case rel => exact ⟨j + 1, by omega, rfl, by go_num, rfl⟩
    · obtain rfl : j = q := by omega
      by_cases hn : j + 2 < ls.length
      · have hy := HQ.out.hi (j + 1) (by omega) (by omega)
        go_wp2
        go_ret
        exact ⟨rfl, rfl⟩
      · have hd : decide ((j : Int) + 2 < (ls.length : Int)) = false := by simp; omega
        go_wp2
        go_ret
        exact ⟨rfl, rfl⟩
set_option maxHeartbeats 1600000 in
theorem implVolume (w : World) (A A' : Option Addr) (k k' : Nat) (ls vs : List Int) (y : Int) (hA : RC w A (ints ls)) (hA' : RC w A' (ints vs)) (hv : curveOk ls vs = true) (h0 : gt ls 0 ≤ y) (hy : y ≤ 2000) :
    Calls Try.prog 53 #[.agg #[.slice A ls.length k, .slice A' vs.length k'], .int .i64 y] w fun e w' => e = .returned (.int .i64 (volAt ls vs y)) ∧ Below w.heap.size w w' := by
  have HA := Lib.hid hA
  have HB := Lib.hid hA'
  clear hA hA'
  have c0 := curveOk_of hv
  obtain ⟨f0, f1, f2, f3, f4, f5, f6, f7⟩ := vol_facts hv h0 hy
  have hl := f0.last
  have hlen : vs.length ≤ ls.length := by omega
  have hlen' : ls.length ≤ vs.length := by omega
  have h12 : ls.length ≤ 12 := c0.2.1
  have F0 := Lib.hid f0
  have HE := Lib.hid (show volAt ls vs y = volK ls vs y (knotOf ls y) from rfl)
  clear c0 f0 hv
  generalize knotOf ls y = q at *
  obtain ⟨b, off, rfl, hbl, hcell⟩ := HA.out (by rw [ints_len]; omega)
  obtain ⟨b', off', rfl, hbl', hcell'⟩ := HB.out (by rw [ints_len]; omega)
  go_enter Try.func53, Try.ntmps53
  go_wp2_with fail
  refine (part_any _ _ _ _ _ ls vs y q (HA.out.below (by repeat (first | exact Below.refl _ _ | assumption | apply bl_alloc | apply bl_drewN | apply Below.drew | (refine bl_set ?_ (by first | exact Nat.le_refl _ | (simp; done) | (simp; omega)) _) | (refine bl_trans ?_ (by assumption))))) (HB.out.below (by repeat (first | exact Below.refl _ _ | assumption | apply bl_alloc | apply bl_drewN | apply Below.drew | (refine bl_set ?_ (by first | exact Nat.le_refl _ | (simp; done) | (simp; omega)) _) | (refine bl_trans ?_ (by assumption))))) F0.out h12).mono ?_
  rintro e w1 ⟨rfl, hb1⟩
  have B1 : Below w.heap.size w w1 := by repeat (first | exact Below.refl _ _ | assumption | apply bl_alloc | apply bl_drewN | apply Below.drew | (refine bl_set ?_ (by first | exact Nat.le_refl _ | (simp; done) | (simp; omega)) _) | (refine bl_trans ?_ (by assumption)))
  have kx : w1.heap[w.heap.size]? = some (.cells #[.slice (some ⟨b, off, none⟩) ls.length k, .slice (some ⟨b', off', none⟩) vs.length k'] 32 (0, 0)) := keep_blk (hb := hb1) (h := by repeat (first | (refine blk_new ?_; (first | rfl | (simp; done) | (simp; omega))) | refine blk_drewN ?_ | refine blk_old ?_))
  obtain ⟨x0, x1, xl⟩ := row_two kx
  clear kx
  have g1 := (B1.cell (p := ⟨b, off + q, none⟩) hbl).trans (hcell q (by rw [ints_len]; omega))
  have g2 := (B1.cell (p := ⟨b, off + (q + 1), none⟩) hbl).trans (hcell (q + 1) (by rw [ints_len]; omega))
  have g3 := (B1.cell (p := ⟨b', off' + q, none⟩) hbl').trans (hcell' q (by rw [ints_len]; omega))
  have g4 := (B1.cell (p := ⟨b', off' + (q + 1), none⟩) hbl').trans (hcell' (q + 1) (by rw [ints_len]; omega))
  rw [ints_get ls q (by omega)] at g1
  rw [ints_get ls (q + 1) (by omega)] at g2
  rw [ints_get vs q (by omega)] at g3
  rw [ints_get vs (q + 1) (by omega)] at g4
  clear hcell hcell'
  go_wp2
  go_quiet (fail)
  go_wp2
  go_ret
  exact ⟨ret_int HE.out.symm, by repeat (first | exact Below.refl _ _ | assumption | apply bl_alloc | apply bl_drewN | apply Below.drew | (refine bl_set ?_ (by first | exact Nat.le_refl _ | (simp; done) | (simp; omega)) _) | (refine bl_trans ?_ (by assumption)))⟩
set_option maxHeartbeats 1600000 in
theorem l05Volume_any (w : World) (p : Nat) (A A' : Option Addr) (k k' : Nat) (ls vs : List Int) (y : Int) (hp0 : w.cell? ⟨p, 0, none⟩ = some (.slice A ls.length k)) (hp1 : w.cell? ⟨p, 1, none⟩ = some (.slice A' vs.length k')) (hA : RC w A (ints ls)) (hA' : RC w A' (ints vs)) (hv : curveOk ls vs = true) (h0 : gt ls 0 ≤ y) (hy : y ≤ 2000) :
    Calls Try.prog 50 #[.pointer (some ⟨p, 0, none⟩), .int .i64 y] w fun e w' => e = .returned (.int .i64 (volAt ls vs y)) ∧ ∃ d, w' = w.drewN d := by
  have HA := Lib.hid hA
  have HB := Lib.hid hA'
  clear hA hA'
  have c0 := curveOk_of hv
  obtain ⟨f0, f1, f2, f3, f4, f5, f6, f7⟩ := vol_facts hv h0 hy
  have hl := f0.last
  have hlen : vs.length ≤ ls.length := by omega
  have hlen' : ls.length ≤ vs.length := by omega
  have h12 : ls.length ≤ 12 := c0.2.1
  have F0 := Lib.hid f0
  have HE := Lib.hid (show volAt ls vs y = volK ls vs y (knotOf ls y) from rfl)
  clear c0 f0 hv
  generalize knotOf ls y = q at *
  obtain ⟨b, off, rfl, hbl, hcell⟩ := HA.out (by rw [ints_len]; omega)
  obtain ⟨b', off', rfl, hbl', hcell'⟩ := HB.out (by rw [ints_len]; omega)
  have g1 := ((Below.refl w.heap.size w).cell (p := ⟨b, off + q, none⟩) hbl).trans (hcell q (by rw [ints_len]; omega))
  have g2 := ((Below.refl w.heap.size w).cell (p := ⟨b, off + (q + 1), none⟩) hbl).trans (hcell (q + 1) (by rw [ints_len]; omega))
  have g3 := ((Below.refl w.heap.size w).cell (p := ⟨b', off' + q, none⟩) hbl').trans (hcell' q (by rw [ints_len]; omega))
  have g4 := ((Below.refl w.heap.size w).cell (p := ⟨b', off' + (q + 1), none⟩) hbl').trans (hcell' (q + 1) (by rw [ints_len]; omega))
  rw [ints_get ls q (by omega)] at g1
  rw [ints_get ls (q + 1) (by omega)] at g2
  rw [ints_get vs q (by omega)] at g3
  rw [ints_get vs (q + 1) (by omega)] at g4
  clear hcell hcell'
  go_enter Try.func50, Try.ntmps50
  go_wp2_with (go_at_call 71; refine (l05Knot_any _ _ _ _ _ _ q hp0 HA.out F0.out h12).mono ?_; rintro e w' ⟨rfl, rfl⟩)
  go_quiet (fail)
  go_wp2
  go_quiet (fail)
  go_wp2
  go_ret
  exact ⟨ret_int HE.out.symm, by first | exact ⟨_, rfl⟩ | exact ⟨_, World.drewN_drewN _ _ _⟩⟩
end Go.Proofs.Ytcgnnlgakfndaaa
