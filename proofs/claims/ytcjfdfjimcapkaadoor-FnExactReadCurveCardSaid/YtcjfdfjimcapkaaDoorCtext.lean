/-
  Contracts: the text of a curve. They hold for all curves of at most 1048576 numbers each.
-/
import Derived.Test.YtcjfdfjimcapkaaDoorDecImpl
import Derived.Test.YtcjfdfjimcapkaaDoorDec
import Derived.Test.YtcjfdfjimcapkaaDoorCtPlain
import Derived.Test.YtcjfdfjimcapkaaDoorCurve2
import Derived.Test.YtcjfdfjimcapkaaDoorOnly
import Derived.Deep.RegionHeld3
namespace Go.Proofs.YtcjfdfjimcapkaaDoor
set_option linter.unusedVariables false
open Go.RowKit

set_option maxRecDepth 100000 in
set_option maxHeartbeats 3200000 in
theorem implCurveText (w : World) (A A' : Option Addr) (k k' : Nat) (ls vs : List Int) (B : Nat) (hB : B ≤ w.heap.size) (ht : PowTab B w) (hA : RC w A (ints ls)) (hA' : RC w A' (ints vs)) (hm : ls.length ≤ 1048576) (hm' : vs.length ≤ 1048576) :
    Calls Tryd.prog 26 #[.agg #[.slice A ls.length k, .slice A' vs.length k']] w fun e w' => e = .returned (.string ⟨(ctText ls vs).toArray⟩) ∧ Below w.heap.size w w' := by
  have HA := Lib.hid hA
  have HB := Lib.hid hA'
  clear hA hA'
  have HT := Lib.hid ht
  clear ht
  cases hv : curveOk ls vs
  · have HV := Lib.hid hv
    clear hv
    go_enter Tryd.func26, Tryd.ntmps26
    go_wp2_with ((go_at_call 25; refine (implValidCurve _ _ _ _ _ ls vs (HA.out.below (by repeat (first | exact Below.refl _ _ | assumption | apply bl_alloc | apply bl_drewN | apply Below.drew | (refine bl_set ?_ (by first | exact Nat.le_refl _ | (simp; done) | (simp; omega)) _) | (refine bl_trans ?_ (by assumption))))) (HB.out.below (by repeat (first | exact Below.refl _ _ | assumption | apply bl_alloc | apply bl_drewN | apply Below.drew | (refine bl_set ?_ (by first | exact Nat.le_refl _ | (simp; done) | (simp; omega)) _) | (refine bl_trans ?_ (by assumption))))) hm hm').mono ?_; rw [HV.out]; rintro e w1 ⟨rfl, hb1⟩))
    go_ret
    exact ⟨ret_bs (by rw [ctt_no HV.out]), by repeat (first | exact Below.refl _ _ | assumption | apply bl_alloc | apply bl_drewN | apply Below.drew | (refine bl_set ?_ (by first | exact Nat.le_refl _ | (simp; done) | (simp; omega)) _) | (refine bl_trans ?_ (by assumption)))⟩
  · have HV := Lib.hid hv
    have c0 := curveOk_of hv
    have h12 : ls.length ≤ 12 := c0.2.1
    have hlv : vs.length = ls.length := c0.2.2.1
    have FB := Lib.hid (show ∀ i, i < ls.length → -2000 ≤ gt ls i ∧ gt ls i ≤ 2000 ∧ 0 ≤ gt vs i ∧ gt vs i ≤ 1000000000 from fun i hi => ⟨(c0.2.2.2.1 i hi).1, (c0.2.2.2.1 i hi).2, c0.2.2.2.2.2.1 i (by omega)⟩)
    obtain ⟨b, off, rfl, hbl, hcell⟩ := HA.out (by rw [ints_len]; omega)
    obtain ⟨b', off', rfl, hbl', hcell'⟩ := HB.out (by rw [ints_len]; omega)
    have HC := Lib.hid hcell
    have HC' := Lib.hid hcell'
    have hlv1 : vs.length ≤ ls.length := by omega
    have hlv2 : ls.length ≤ vs.length := by omega
    clear hcell hcell' c0 hlv hv
    go_enter Tryd.func26, Tryd.ntmps26
    go_wp2_with ((go_at_call 25; refine (implValidCurve _ _ _ _ _ ls vs (HA.out.below (by repeat (first | exact Below.refl _ _ | assumption | apply bl_alloc | apply bl_drewN | apply Below.drew | (refine bl_set ?_ (by first | exact Nat.le_refl _ | (simp; done) | (simp; omega)) _) | (refine bl_trans ?_ (by assumption))))) (HB.out.below (by repeat (first | exact Below.refl _ _ | assumption | apply bl_alloc | apply bl_drewN | apply Below.drew | (refine bl_set ?_ (by first | exact Nat.le_refl _ | (simp; done) | (simp; omega)) _) | (refine bl_trans ?_ (by assumption))))) hm hm').mono ?_; rw [HV.out]; rintro e w1 ⟨rfl, hb1⟩; have kx : w1.heap[w.heap.size]? = some (.cells #[.slice (some ⟨b, off, none⟩) ls.length k, .slice (some ⟨b', off', none⟩) vs.length k'] 24 (0, 0)) := keep_blk (hb := hb1) (h := by repeat (first | (refine blk_new ?_; (first | rfl | (simp; done) | (simp; omega))) | refine blk_drewN ?_ | refine blk_old ?_)); obtain ⟨x0, x1, xl⟩ := row_two kx))
    have B1 := Lib.hid (show Below w.heap.size w w1 by repeat (first | exact Below.refl _ _ | assumption | apply bl_alloc | apply bl_drewN | apply Below.drew | (refine bl_set ?_ (by first | exact Nat.le_refl _ | (simp; done) | (simp; omega)) _) | (refine bl_trans ?_ (by assumption))))
    have HK := Lib.hid kx
    clear x0 x1 kx hb1
    go_loopg [3, 12] ls.length (fun m s i wr => ∃ j, j ≤ ls.length ∧ m = ls.length - j ∧ i = .int .i64 (j : Int) ∧ s = .string ⟨(ctTo ls vs j).toArray⟩ ∧ Below w1.heap.size w1 wr)
    case atStart => exact ⟨0, Nat.zero_le _, rfl, rfl, rfl, Below.refl _ _⟩
    case round =>
      obtain ⟨j, hj, hgj, rfl, rfl, hb1⟩ := hrel
      have hb : Below w.heap.size w wr := B1.out.trans (hb1.mono B1.out.size)
      have HGK := Lib.hid hgj
      have kx : wr.heap[w.heap.size]? = some (.cells #[.slice (some ⟨b, off, none⟩) ls.length k, .slice (some ⟨b', off', none⟩) vs.length k'] 24 (0, 0)) := keep_blk (hb := hb1) (h := HK.out)
      obtain ⟨q0, q1, ql⟩ := row_two kx
      clear hgj kx
      by_cases hlt : j < ls.length
      · have g1 := (hb.cell (p := ⟨b, off + j, none⟩) hbl).trans (HC.out j (by rw [ints_len]; omega))
        have g2 := (hb.cell (p := ⟨b', off' + j, none⟩) hbl').trans (HC'.out j (by rw [ints_len]; omega))
        rw [ints_get ls j hlt] at g1
        rw [ints_get vs j (by omega)] at g2
        have fb := FB.out j hlt
        have i1 := it_len (n := gt ls j) (by omega) (by omega)
        have i2 := it_len (n := gt vs j) (by omega) (by omega)
        have i0 := ct_len FB.out j (by omega)
        have jb : (0 : Int) ≤ (j : Int) := by omega
        have jc : (j : Int) < (ls.length : Int) := by omega
        have jd : (j : Int) < (vs.length : Int) := by omega
        have n1 : ¬ 9223372036854775807 < (Lib.itoa (gt ls j)).length + 1 := by omega
        have n2 : ¬ 9223372036854775807 < (Lib.itoa (gt ls j)).length + 1 + (Lib.itoa (gt vs j)).length := by omega
        have n3 : ¬ 9223372036854775807 < (ctTo ls vs j).length + 1 + ((Lib.itoa (gt ls j)).length + 1 + (Lib.itoa (gt vs j)).length) := by omega
        have n4 : ¬ 9223372036854775807 < (ctTo ls vs j).length + ((Lib.itoa (gt ls j)).length + 1 + (Lib.itoa (gt vs j)).length) := by omega
        by_cases h0 : 0 < j
        · have HN := Lib.hid (ct_next (ls := ls) (vs := vs) h0)
          go_wp2
          go_region_held3 (fun w' => w'.cell? ⟨w.heap.size, 1, none⟩ = some (.slice (some ⟨b', off', none⟩) vs.length k') ∧ w'.cell? ⟨b', off' + j, none⟩ = some (.int .i64 (gt vs j))) (((try dsimp only); refine ⟨?_, ?_⟩ <;> (repeat (first | with_reducible assumption | with_reducible refine kc_drew ?_ | with_reducible refine kc_drewN ?_ | with_reducible refine kc_alloc ?_ | with_reducible refine kc_set ?_ (by first | omega | (simp; done) | (simp; omega)))))) (first | (go_at_call 51; refine (implDecimal _ _ B (HT.out.on (Below.mono (by repeat (first | exact Below.refl _ _ | assumption | apply bl_alloc | apply bl_drewN | apply Below.drew | (refine bl_set ?_ (by first | exact Nat.le_refl _ | (simp; done) | (simp; omega)) _) | (refine bl_trans ?_ (by assumption)))) hB)) (by omega) (by omega)).mono ?_; rintro e w2 ⟨rfl, hb2⟩; have s2 : Below wr.heap.size wr w2 := (by repeat (first | exact Below.refl _ _ | assumption | apply bl_alloc | apply bl_drewN | apply Below.drew | (refine bl_set ?_ (by first | exact Nat.le_refl _ | (simp; done) | (simp; omega)) _) | (refine bl_trans ?_ (by assumption)))); have r1 := (s2.cell (p := ⟨w.heap.size, 1, none⟩) (World.block_lt_of_cell? wr _ q1)).trans q1; have r3 := (s2.cell (p := ⟨b', off' + j, none⟩) (World.block_lt_of_cell? wr _ g2)).trans g2) | fail)
          go_wp2
          go_roundg (ls.length - (j + 1))
          case measure => rw [HGK.out]; omega
          case rel => exact ⟨j + 1, by omega, rfl, by go_num, by rw [HN.out]; simp only [ByteArray.mk_append_mk], by repeat (first | exact Below.refl _ _ | assumption | apply bl_alloc | apply bl_drewN | apply Below.drew | (refine bl_set ?_ (by first | exact Nat.le_refl _ | (simp; done) | (simp; omega)) _) | (refine bl_trans ?_ (by assumption)))⟩
        · have HN := Lib.hid (ct_first (ls := ls) (vs := vs) h0)
          go_wp2
          go_region_held3 (fun w' => w'.cell? ⟨w.heap.size, 1, none⟩ = some (.slice (some ⟨b', off', none⟩) vs.length k') ∧ w'.cell? ⟨b', off' + j, none⟩ = some (.int .i64 (gt vs j))) (((try dsimp only); refine ⟨?_, ?_⟩ <;> (repeat (first | with_reducible assumption | with_reducible refine kc_drew ?_ | with_reducible refine kc_drewN ?_ | with_reducible refine kc_alloc ?_ | with_reducible refine kc_set ?_ (by first | omega | (simp; done) | (simp; omega)))))) (first | (go_at_call 51; refine (implDecimal _ _ B (HT.out.on (Below.mono (by repeat (first | exact Below.refl _ _ | assumption | apply bl_alloc | apply bl_drewN | apply Below.drew | (refine bl_set ?_ (by first | exact Nat.le_refl _ | (simp; done) | (simp; omega)) _) | (refine bl_trans ?_ (by assumption)))) hB)) (by omega) (by omega)).mono ?_; rintro e w2 ⟨rfl, hb2⟩; have s2 : Below wr.heap.size wr w2 := (by repeat (first | exact Below.refl _ _ | assumption | apply bl_alloc | apply bl_drewN | apply Below.drew | (refine bl_set ?_ (by first | exact Nat.le_refl _ | (simp; done) | (simp; omega)) _) | (refine bl_trans ?_ (by assumption)))); have r1 := (s2.cell (p := ⟨w.heap.size, 1, none⟩) (World.block_lt_of_cell? wr _ q1)).trans q1; have r3 := (s2.cell (p := ⟨b', off' + j, none⟩) (World.block_lt_of_cell? wr _ g2)).trans g2) | fail)
          go_wp2
          go_roundg (ls.length - (j + 1))
          case measure => rw [HGK.out]; omega
          case rel => exact ⟨j + 1, by omega, rfl, by go_num, by rw [HN.out]; simp only [ByteArray.mk_append_mk], by repeat (first | exact Below.refl _ _ | assumption | apply bl_alloc | apply bl_drewN | apply Below.drew | (refine bl_set ?_ (by first | exact Nat.le_refl _ | (simp; done) | (simp; omega)) _) | (refine bl_trans ?_ (by assumption)))⟩
      · obtain rfl : j = ls.length := by omega
        go_wp2
        go_ret
        exact ⟨ret_bs (by rw [ctt_yes HV.out]), hb⟩
end Go.Proofs.YtcjfdfjimcapkaaDoor
