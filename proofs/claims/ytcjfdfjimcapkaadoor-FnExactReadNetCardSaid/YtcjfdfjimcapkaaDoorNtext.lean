/-
  Contracts: the text of a net. They hold for at most 1048576 ditches.
-/
import Derived.Test.YtcjfdfjimcapkaaDoorDecImpl
import Derived.Test.YtcjfdfjimcapkaaDoorDec
import Derived.Test.YtcjfdfjimcapkaaDoorNtPlain
import Derived.Test.YtcjfdfjimcapkaaDoorNetOk
import Derived.Test.YtcjfdfjimcapkaaDoorOnly
import Derived.Deep.RegionHeld3
namespace Go.Proofs.YtcjfdfjimcapkaaDoor
set_option linter.unusedVariables false
open Go.RowKit

set_option maxRecDepth 100000 in
set_option maxHeartbeats 3200000 in
theorem implNetText (w : World) (J : Int) (A : Option Addr) (n k : Nat) (fl : List Int) (B : Nat) (hB : B ≤ w.heap.size) (ht : PowTab B w) (hA : RC w A (ints fl)) (lf : fl.length = n * 3) (hm : n ≤ 1048576) :
    Calls Tryd.prog 33 #[.agg #[.int .i64 J, .slice A n k]] w fun e w' => e = .returned (.string ⟨(ntText J n fl).toArray⟩) ∧ Below w.heap.size w w' := by
  have HA := Lib.hid hA
  have HL := Lib.hid lf
  clear hA lf
  have HT := Lib.hid ht
  clear ht
  cases k1 : netOk J n fl
  · have HV := Lib.hid k1
    clear k1
    go_enter Tryd.func33, Tryd.ntmps33
    go_wp2_with ((go_at_call 32; refine (implValidNet _ J A n k fl (HA.out.below (by repeat (first | exact Below.refl _ _ | assumption | apply bl_alloc | apply bl_drewN | apply Below.drew | (refine bl_set ?_ (by first | exact Nat.le_refl _ | (simp; done) | (simp; omega)) _) | (refine bl_trans ?_ (by assumption))))) HL.out hm).mono ?_; rw [HV.out]; rintro e w1 ⟨rfl, hb1⟩))
    go_ret
    exact ⟨ret_bs (by rw [ntt_no HV.out]), by repeat (first | exact Below.refl _ _ | assumption | apply bl_alloc | apply bl_drewN | apply Below.drew | (refine bl_set ?_ (by first | exact Nat.le_refl _ | (simp; done) | (simp; omega)) _) | (refine bl_trans ?_ (by assumption)))⟩
  · have HV := Lib.hid k1
    have N := Lib.hid (netOk_of k1)
    have j1 := N.out.1.1
    have j2 := N.out.1.2
    have hn := N.out.2.1
    have iJ := it_len (n := J) (by omega) (by omega)
    have nJ : ¬ 9223372036854775807 < (Lib.itoa J).length + 1 := by omega
    clear k1
    go_enter Tryd.func33, Tryd.ntmps33
    go_wp2_with (first | (go_at_call 32; refine (implValidNet _ J A n k fl (HA.out.below (by repeat (first | exact Below.refl _ _ | assumption | apply bl_alloc | apply bl_drewN | apply Below.drew | (refine bl_set ?_ (by first | exact Nat.le_refl _ | (simp; done) | (simp; omega)) _) | (refine bl_trans ?_ (by assumption))))) HL.out hm).mono ?_; rw [HV.out]; rintro e w1 ⟨rfl, hb1⟩; have kx : w1.heap[w.heap.size]? = some (.cells #[.int .i64 J, .slice A n k] 32 (0, 0)) := keep_blk (hb := hb1) (h := by repeat (first | (refine blk_new ?_; (first | rfl | (simp; done) | (simp; omega))) | refine blk_drewN ?_ | refine blk_old ?_)); obtain ⟨x0, x1, xl⟩ := row_two kx) | (go_at_call 51; refine (implDecimal _ _ B (HT.out.on (Below.mono (by repeat (first | exact Below.refl _ _ | assumption | apply bl_alloc | apply bl_drewN | apply Below.drew | (refine bl_set ?_ (by first | exact Nat.le_refl _ | (simp; done) | (simp; omega)) _) | (refine bl_trans ?_ (by assumption)))) hB)) (by omega) (by omega)).mono ?_; rintro e w3 ⟨rfl, hb3⟩; have kx3 := keep_blk (hb := hb3) (h := kx); obtain ⟨y0, y1, yl⟩ := row_two kx3))
    go_loopg [3, 16] n (fun m s i wr => ∃ j, j ≤ n ∧ m = n - j ∧ i = .int .i64 (j : Int) ∧ s = .string ⟨(ntTo J fl j).toArray⟩ ∧ Below w.heap.size w wr)
    case atStart => exact ⟨0, Nat.zero_le _, rfl, rfl, by rw [nt_zero]; simp only [ByteArray.mk_append_mk], by repeat (first | exact Below.refl _ _ | assumption | apply bl_alloc | apply bl_drewN | apply Below.drew | (refine bl_set ?_ (by first | exact Nat.le_refl _ | (simp; done) | (simp; omega)) _) | (refine bl_trans ?_ (by assumption)))⟩
    case round =>
      clear x0 x1 xl y0 y1 yl kx kx3 hb1 hb3
      obtain ⟨j, hj, hgj, rfl, rfl, hb⟩ := hrel
      have HGK := Lib.hid hgj
      clear hgj
      by_cases hlt : j < n
      · obtain ⟨b, off, rfl, hbl, hcell⟩ := HA.out (by rw [ints_len, HL.out]; omega)
        obtain ⟨q0, q1, q2⟩ := dit_cells hbl hcell HL.out hlt hb
        clear hcell
        have bd := N.out.2.2 j hlt
        have i1 := it_len (n := dF fl j) (by omega) (by omega)
        have i2 := it_len (n := dT fl j) (by omega) (by omega)
        have i3 := it_len (n := dW fl j) (by omega) (by omega)
        have i0 := nt_len J N.out.2.2 (by omega) (by omega) j hj
        have n1 : ¬ 9223372036854775807 < 1 + (Lib.itoa (dF fl j)).length := by omega
        have n2 : ¬ 9223372036854775807 < 1 + (Lib.itoa (dF fl j)).length + 1 := by omega
        have n3 : ¬ 9223372036854775807 < 1 + (Lib.itoa (dF fl j)).length + 1 + (Lib.itoa (dT fl j)).length := by omega
        have n4 : ¬ 9223372036854775807 < 1 + (Lib.itoa (dF fl j)).length + 1 + (Lib.itoa (dT fl j)).length + 1 := by omega
        have n5 : ¬ 9223372036854775807 < 1 + (Lib.itoa (dF fl j)).length + 1 + (Lib.itoa (dT fl j)).length + 1 + (Lib.itoa (dW fl j)).length := by omega
        have n6 : ¬ 9223372036854775807 < (ntTo J fl j).length + (1 + (Lib.itoa (dF fl j)).length + 1 + (Lib.itoa (dT fl j)).length + 1 + (Lib.itoa (dW fl j)).length) := by omega
        go_wp2
        go_region_held3 (fun w' => w'.cell? ⟨wr.heap.size, 0, none⟩ = some (.int .i64 (dF fl j)) ∧ w'.cell? ⟨wr.heap.size, 1, none⟩ = some (.int .i64 (dT fl j)) ∧ w'.cell? ⟨wr.heap.size, 2, none⟩ = some (.int .i64 (dW fl j))) (((try dsimp only); refine ⟨?_, ?_, ?_⟩ <;> (first | ((repeat (first | with_reducible assumption | with_reducible refine kc_drew ?_ | with_reducible refine kc_drewN ?_ | with_reducible refine kc_alloc ?_ | with_reducible refine kc_set ?_ (by first | omega | (simp; done) | (simp; omega)))); done) | (simp [go_sem]; done)))) (first | (go_at_call 51; refine (implDecimal _ _ B (HT.out.on (Below.mono (by repeat (first | exact Below.refl _ _ | assumption | apply bl_alloc | apply bl_drewN | apply Below.drew | (refine bl_set ?_ (by first | exact Nat.le_refl _ | (simp; done) | (simp; omega)) _) | (refine bl_trans ?_ (by assumption)))) hB)) (by omega) (by omega)).mono ?_; rintro e w2 ⟨rfl, hb2⟩; have kd : w2.heap[wr.heap.size]? = some (.cells #[.int .i64 (dF fl j), .int .i64 (dT fl j), .int .i64 (dW fl j)] 55 (0, 0)) := keep_blk (hb := hb2) (h := by first | exact kd | (refine blk_drew ?_; first | exact kd | exact blk_new rfl) | exact blk_new rfl); obtain ⟨d0, d1, d2, dl⟩ := row_three kd) | fail)
        go_wp2
        go_roundg (n - (j + 1))
        case measure => rw [HGK.out]; omega
        case rel => exact ⟨j + 1, by omega, rfl, by go_num, by rw [nt_next]; simp only [ByteArray.mk_append_mk], by repeat (first | exact Below.refl _ _ | assumption | apply bl_alloc | apply bl_drewN | apply Below.drew | (refine bl_set ?_ (by first | exact Nat.le_refl _ | (simp; done) | (simp; omega)) _) | (refine bl_trans ?_ (by assumption)))⟩
      · obtain rfl : j = n := by omega
        go_wp2
        go_ret
        exact ⟨ret_bs (by rw [ntt_yes HV.out]), hb⟩
end Go.Proofs.YtcjfdfjimcapkaaDoor
