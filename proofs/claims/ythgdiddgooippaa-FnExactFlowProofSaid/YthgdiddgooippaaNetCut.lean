/-
  Contracts on nets: the cut of some junctions. They hold for lists of at most 1048576 numbers.
-/
import Derived.Test.YthgdiddgooippaaNetOk
import Derived.Test.YthgdiddgooippaaHas
import Derived.Test.YthgdiddgooippaaCutPlain
import Derived.Test.YthgdiddgooippaaCurve
namespace Go.Proofs.Ythgdiddgooippaa
set_option linter.unusedVariables false
open Go.RowKit

set_option maxHeartbeats 1600000 in
theorem implCut (w : World) (J : Int) (A S : Option Addr) (n k0 c : Nat) (fl side : List Int) (hA : RC w A (ints fl)) (lf : fl.length = n * 3) (hm : n ≤ 1048576) (hS : RC w S (ints side)) (hms : side.length ≤ 1048576) (hn : n ≤ 20) (hw : ∀ i, i < n → 0 ≤ dW fl i ∧ dW fl i ≤ 1000) :
    Calls Try.prog 57 #[.agg #[.int .i64 J, .slice A n k0], .slice S side.length c] w fun e w' => e = .returned (.int .i64 (cutTo fl side n)) ∧ Below w.heap.size w w' := by
  have HA := Lib.hid hA
  have HL := Lib.hid lf
  have HS := Lib.hid hS
  clear hA lf hS
  have HW := Lib.hid hw
  clear hw
  go_enter Try.func57, Try.ntmps57
  go_wp2
  go_loopg [5, 11] n (fun m s i wr => ∃ k, k ≤ n ∧ m = n - k ∧ i = .int .i64 (k : Int) ∧ s = .int .i64 (cutTo fl side k) ∧ Below w.heap.size w wr)
  case atStart => exact ⟨0, Nat.zero_le _, by omega, rfl, rfl, by repeat (first | exact Below.refl _ _ | assumption | apply bl_alloc | apply bl_drewN | apply Below.drew | (refine bl_set ?_ (by first | exact Nat.le_refl _ | (simp; done) | (simp; omega)) _) | (refine bl_trans ?_ (by assumption)))⟩
  case round =>
    obtain ⟨k, hk, hgk, rfl, rfl, hb⟩ := hrel
    have HGK := Lib.hid hgk
    clear hgk
    by_cases hlt : k < n
    · obtain ⟨b, off, rfl, hbl, hcell⟩ := HA.out (by rw [ints_len, HL.out]; omega)
      obtain ⟨q0, q1, q2⟩ := dit_cells hbl hcell HL.out hlt hb
      clear hcell
      have bd := cutTo_bd (side := side) HW.out k hk
      have bw := HW.out k hlt
      cases h1 : hasB side (dF fl k)
      · have HR := Lib.hid (cutTo_no1 h1)
        go_wp2_with (go_at_call 66; refine (has_any _ _ _ _ _ (HS.out.below (by repeat (first | exact Below.refl _ _ | assumption | apply bl_alloc | apply bl_drewN | apply Below.drew | (refine bl_set ?_ (by first | exact Nat.le_refl _ | (simp; done) | (simp; omega)) _) | (refine bl_trans ?_ (by assumption))))) hms).mono ?_; rintro e w' ⟨rfl, rfl⟩)
        go_roundg (n - (k + 1))
        case measure => rw [HGK.out]; omega
        case rel => exact ⟨k + 1, by omega, rfl, by go_num, ret_v (by rw [HR.out]), by repeat (first | exact Below.refl _ _ | assumption | apply bl_alloc | apply bl_drewN | apply Below.drew | (refine bl_set ?_ (by first | exact Nat.le_refl _ | (simp; done) | (simp; omega)) _) | (refine bl_trans ?_ (by assumption)))⟩
      · cases h2 : hasB side (dT fl k)
        · have HR := Lib.hid (cutTo_yes h1 h2)
          go_wp2_with (go_at_call 66; refine (has_any _ _ _ _ _ (HS.out.below (by repeat (first | exact Below.refl _ _ | assumption | apply bl_alloc | apply bl_drewN | apply Below.drew | (refine bl_set ?_ (by first | exact Nat.le_refl _ | (simp; done) | (simp; omega)) _) | (refine bl_trans ?_ (by assumption))))) hms).mono ?_; rintro e w' ⟨rfl, rfl⟩)
          go_roundg (n - (k + 1))
          case measure => rw [HGK.out]; omega
          case rel => exact ⟨k + 1, by omega, rfl, by go_num, ret_v (by rw [HR.out]), by repeat (first | exact Below.refl _ _ | assumption | apply bl_alloc | apply bl_drewN | apply Below.drew | (refine bl_set ?_ (by first | exact Nat.le_refl _ | (simp; done) | (simp; omega)) _) | (refine bl_trans ?_ (by assumption)))⟩
        · have HR := Lib.hid (cutTo_no2 h2)
          go_wp2_with (go_at_call 66; refine (has_any _ _ _ _ _ (HS.out.below (by repeat (first | exact Below.refl _ _ | assumption | apply bl_alloc | apply bl_drewN | apply Below.drew | (refine bl_set ?_ (by first | exact Nat.le_refl _ | (simp; done) | (simp; omega)) _) | (refine bl_trans ?_ (by assumption))))) hms).mono ?_; rintro e w' ⟨rfl, rfl⟩)
          go_roundg (n - (k + 1))
          case measure => rw [HGK.out]; omega
          case rel => exact ⟨k + 1, by omega, rfl, by go_num, ret_v (by rw [HR.out]), by repeat (first | exact Below.refl _ _ | assumption | apply bl_alloc | apply bl_drewN | apply Below.drew | (refine bl_set ?_ (by first | exact Nat.le_refl _ | (simp; done) | (simp; omega)) _) | (refine bl_trans ?_ (by assumption)))⟩
    · obtain rfl : k = n := by omega
      go_wp2
      go_ret
      exact ⟨rfl, hb⟩
set_option maxRecDepth 100000 in
set_option maxHeartbeats 1600000 in
theorem specCut (w : World) (p : Nat) (J : Int) (A S : Option Addr) (n k c : Nat) (fl side : List Int) (hp0 : w.cell? ⟨p, 0, none⟩ = some (.int .i64 J)) (hp1 : w.cell? ⟨p, 1, none⟩ = some (.slice A n k)) (hA : RC w A (ints fl)) (lf : fl.length = n * 3) (hm : n ≤ 1048576) (hS : RC w S (ints side)) (hms : side.length ≤ 1048576) (hn : n ≤ 20) (hw : ∀ i, i < n → 0 ≤ dW fl i ∧ dW fl i ≤ 1000) :
    Calls Try.prog 55 #[.pointer (some ⟨p, 0, none⟩), .slice S side.length c] w fun e w' => e = .returned (.int .i64 (cutTo fl side n)) ∧ w = w' := by
  have HA := Lib.hid hA
  have HL := Lib.hid lf
  have HS := Lib.hid hS
  clear hA lf hS
  have HW := Lib.hid hw
  clear hw
  go_enter Try.func55, Try.ntmps55
  go_wp2
  go_loopg [5, 6] n (fun m s i wr => ∃ k, k ≤ n ∧ m = n - k ∧ i = .int .i64 (k : Int) ∧ s = .int .i64 (cutTo fl side k) ∧ wr = w)
  case atStart => exact ⟨0, Nat.zero_le _, by omega, rfl, rfl, rfl⟩
  case round =>
    obtain ⟨k, hk, hgk, rfl, rfl, rfl⟩ := hrel
    have HGK := Lib.hid hgk
    clear hgk
    by_cases hlt : k < n
    · obtain ⟨b, off, rfl, hbl, hcell⟩ := HA.out (by rw [ints_len, HL.out]; omega)
      obtain ⟨q0, q1, q2⟩ := dit_cells hbl hcell HL.out hlt (Below.refl _ _)
      clear hcell
      have bd := cutTo_bd (side := side) HW.out k hk
      have bw := HW.out k hlt
      cases h1 : hasB side (dF fl k)
      · have HR := Lib.hid (cutTo_no1 h1)
        go_wp2_with (go_at_call 65; refine (l00Has_any _ _ _ _ _ HS.out hms).mono ?_; rintro e w' ⟨rfl, rfl⟩)
        go_roundg (n - (k + 1))
        case measure => rw [HGK.out]; omega
        case rel => exact ⟨k + 1, by omega, rfl, by go_num, ret_v (by rw [HR.out]), rfl⟩
      · cases h2 : hasB side (dT fl k)
        · have HR := Lib.hid (cutTo_yes h1 h2)
          go_wp2_with (go_at_call 65; refine (l00Has_any _ _ _ _ _ HS.out hms).mono ?_; rintro e w' ⟨rfl, rfl⟩)
          go_roundg (n - (k + 1))
          case measure => rw [HGK.out]; omega
          case rel => exact ⟨k + 1, by omega, rfl, by go_num, ret_v (by rw [HR.out]), rfl⟩
        · have HR := Lib.hid (cutTo_no2 h2)
          go_wp2_with (go_at_call 65; refine (l00Has_any _ _ _ _ _ HS.out hms).mono ?_; rintro e w' ⟨rfl, rfl⟩)
          go_roundg (n - (k + 1))
          case measure => rw [HGK.out]; omega
          case rel => exact ⟨k + 1, by omega, rfl, by go_num, ret_v (by rw [HR.out]), rfl⟩
    · obtain rfl : k = n := by omega
      go_wp2
      go_ret
      exact ⟨rfl, rfl⟩
set_option maxHeartbeats 1600000 in
theorem implCutFlow (w : World) (J : Int) (A S : Option Addr) (n k c : Nat) (fl side : List Int) (hA : RC w A (ints fl)) (lf : fl.length = n * 3) (hm : n ≤ 1048576) (hS : RC w S (ints side)) (hms : side.length ≤ 1048576) :
    Calls Try.prog 27 #[.agg #[.int .i64 J, .slice A n k], .slice S side.length c] w fun e w' => e = .returned (.tuple #[.int .i64 (cfX J n fl side), .int .i64 (cfC J n fl side)]) ∧ Below w.heap.size w w' := by
  have HA := Lib.hid hA
  have HL := Lib.hid lf
  have HS := Lib.hid hS
  clear hA lf hS
  cases k1 : netOk J n fl
  · have H := Lib.hid (cf_1 (side := side) k1)
    go_enter Try.func27, Try.ntmps27
    go_wp2_with ((go_at_call 17; refine (implValidNet _ _ _ _ _ _ (HA.out.below (by repeat (first | exact Below.refl _ _ | assumption | apply bl_alloc | apply bl_drewN | apply Below.drew | (refine bl_set ?_ (by first | exact Nat.le_refl _ | (simp; done) | (simp; omega)) _) | (refine bl_trans ?_ (by assumption))))) HL.out hm).mono ?_; rintro e w1 ⟨rfl, hb1⟩; have kx : w1.heap[w.heap.size]? = some (.cells #[.int .i64 J, .slice A n k] 29 (0, 0)) := keep_blk (hb := hb1) (h := heap_alloc_new _ _); obtain ⟨x0, x1, xl⟩ := row_two kx))
    go_ret2
    rw [H.out.1, H.out.2]
    exact ⟨rfl, by repeat (first | exact Below.refl _ _ | assumption | apply bl_alloc | apply bl_drewN | apply Below.drew | (refine bl_set ?_ (by first | exact Nat.le_refl _ | (simp; done) | (simp; omega)) _) | (refine bl_trans ?_ (by assumption)))⟩
  · have N := Lib.hid (netOk_of k1)
    have j1 := N.out.1.1
    have j2 := N.out.1.2
    cases k2 : risesB side 0 (J - 1)
    · have H := Lib.hid (cf_2 k1 k2)
      go_enter Try.func27, Try.ntmps27
      go_wp2_with (first | (go_at_call 17; refine (implValidNet _ _ _ _ _ _ (HA.out.below (by repeat (first | exact Below.refl _ _ | assumption | apply bl_alloc | apply bl_drewN | apply Below.drew | (refine bl_set ?_ (by first | exact Nat.le_refl _ | (simp; done) | (simp; omega)) _) | (refine bl_trans ?_ (by assumption))))) HL.out hm).mono ?_; rintro e w1 ⟨rfl, hb1⟩; have kx : w1.heap[w.heap.size]? = some (.cells #[.int .i64 J, .slice A n k] 29 (0, 0)) := keep_blk (hb := hb1) (h := heap_alloc_new _ _); obtain ⟨x0, x1, xl⟩ := row_two kx) | (go_at_call 56; refine (rises_any _ _ _ _ _ _ (HS.out.below (by repeat (first | exact Below.refl _ _ | assumption | apply bl_alloc | apply bl_drewN | apply Below.drew | (refine bl_set ?_ (by first | exact Nat.le_refl _ | (simp; done) | (simp; omega)) _) | (refine bl_trans ?_ (by assumption))))) hms).mono ?_; rintro e w' ⟨rfl, dd, rfl⟩))
      go_ret2
      rw [H.out.1, H.out.2]
      exact ⟨rfl, by repeat (first | exact Below.refl _ _ | assumption | apply bl_alloc | apply bl_drewN | apply Below.drew | (refine bl_set ?_ (by first | exact Nat.le_refl _ | (simp; done) | (simp; omega)) _) | (refine bl_trans ?_ (by assumption)))⟩
    · have H := Lib.hid (cf_3 k1 k2)
      go_enter Try.func27, Try.ntmps27
      go_wp2_with (first | (go_at_call 17; refine (implValidNet _ _ _ _ _ _ (HA.out.below (by repeat (first | exact Below.refl _ _ | assumption | apply bl_alloc | apply bl_drewN | apply Below.drew | (refine bl_set ?_ (by first | exact Nat.le_refl _ | (simp; done) | (simp; omega)) _) | (refine bl_trans ?_ (by assumption))))) HL.out hm).mono ?_; rintro e w1 ⟨rfl, hb1⟩; have kx : w1.heap[w.heap.size]? = some (.cells #[.int .i64 J, .slice A n k] 29 (0, 0)) := keep_blk (hb := hb1) (h := heap_alloc_new _ _); obtain ⟨x0, x1, xl⟩ := row_two kx) | (go_at_call 56; refine (rises_any _ _ _ _ _ _ (HS.out.below (by repeat (first | exact Below.refl _ _ | assumption | apply bl_alloc | apply bl_drewN | apply Below.drew | (refine bl_set ?_ (by first | exact Nat.le_refl _ | (simp; done) | (simp; omega)) _) | (refine bl_trans ?_ (by assumption))))) hms).mono ?_; rintro e w' ⟨rfl, dd, rfl⟩) | (go_at_call 57; refine (implCut _ _ _ _ _ _ _ _ _ (HA.out.below (by repeat (first | exact Below.refl _ _ | assumption | apply bl_alloc | apply bl_drewN | apply Below.drew | (refine bl_set ?_ (by first | exact Nat.le_refl _ | (simp; done) | (simp; omega)) _) | (refine bl_trans ?_ (by assumption))))) HL.out hm (HS.out.below (by repeat (first | exact Below.refl _ _ | assumption | apply bl_alloc | apply bl_drewN | apply Below.drew | (refine bl_set ?_ (by first | exact Nat.le_refl _ | (simp; done) | (simp; omega)) _) | (refine bl_trans ?_ (by assumption))))) hms N.out.2.1 (fun i hi => (N.out.2.2 i hi).2.2.2)).mono ?_; rintro e w2 ⟨rfl, hb2⟩))
      go_ret2
      rw [H.out.1, H.out.2]
      exact ⟨rfl, by repeat (first | exact Below.refl _ _ | assumption | apply bl_alloc | apply bl_drewN | apply Below.drew | (refine bl_set ?_ (by first | exact Nat.le_refl _ | (simp; done) | (simp; omega)) _) | (refine bl_trans ?_ (by assumption)))⟩
set_option maxHeartbeats 1600000 in
theorem specCutFlow (w : World) (J : Int) (A S : Option Addr) (n k c : Nat) (fl side : List Int) (hA : RC w A (ints fl)) (lf : fl.length = n * 3) (hm : n ≤ 1048576) (hS : RC w S (ints side)) (hms : side.length ≤ 1048576) :
    Calls Try.prog 25 #[.agg #[.int .i64 J, .slice A n k], .slice S side.length c] w fun e w' => e = .returned (.tuple #[.int .i64 (cfX J n fl side), .int .i64 (cfC J n fl side)]) ∧ Below w.heap.size w w' := by
  have HA := Lib.hid hA
  have HL := Lib.hid lf
  have HS := Lib.hid hS
  clear hA lf hS
  cases k1 : netOk J n fl
  · have H := Lib.hid (cf_1 (side := side) k1)
    go_enter Try.func25, Try.ntmps25
    go_wp2_with ((go_at_call 41; refine (l04Ok_any _ w.heap.size J A n k fl (by simp [go_sem]) (by simp [go_sem]) (HA.out.below (by repeat (first | exact Below.refl _ _ | assumption | apply bl_alloc | apply bl_drewN | apply Below.drew | (refine bl_set ?_ (by first | exact Nat.le_refl _ | (simp; done) | (simp; omega)) _) | (refine bl_trans ?_ (by assumption))))) HL.out hm).mono ?_; rintro e w1 ⟨rfl, hb1⟩; have kx : w1.heap[w.heap.size]? = some (.cells #[.int .i64 J, .slice A n k] 29 (0, 0)) := keep_blk (hb := hb1) (h := heap_alloc_new _ _); obtain ⟨x0, x1, xl⟩ := row_two kx))
    go_ret2
    rw [H.out.1, H.out.2]
    exact ⟨rfl, by repeat (first | exact Below.refl _ _ | assumption | apply bl_alloc | apply bl_drewN | apply Below.drew | (refine bl_set ?_ (by first | exact Nat.le_refl _ | (simp; done) | (simp; omega)) _) | (refine bl_trans ?_ (by assumption)))⟩
  · have N := Lib.hid (netOk_of k1)
    have j1 := N.out.1.1
    have j2 := N.out.1.2
    cases k2 : risesB side 0 (J - 1)
    · have H := Lib.hid (cf_2 k1 k2)
      go_enter Try.func25, Try.ntmps25
      go_wp2_with (first | (go_at_call 41; refine (l04Ok_any _ w.heap.size J A n k fl (by simp [go_sem]) (by simp [go_sem]) (HA.out.below (by repeat (first | exact Below.refl _ _ | assumption | apply bl_alloc | apply bl_drewN | apply Below.drew | (refine bl_set ?_ (by first | exact Nat.le_refl _ | (simp; done) | (simp; omega)) _) | (refine bl_trans ?_ (by assumption))))) HL.out hm).mono ?_; rintro e w1 ⟨rfl, hb1⟩; have kx : w1.heap[w.heap.size]? = some (.cells #[.int .i64 J, .slice A n k] 29 (0, 0)) := keep_blk (hb := hb1) (h := heap_alloc_new _ _); obtain ⟨x0, x1, xl⟩ := row_two kx) | (go_at_call 54; refine (l00Rises_any _ _ _ _ _ _ (HS.out.below (by repeat (first | exact Below.refl _ _ | assumption | apply bl_alloc | apply bl_drewN | apply Below.drew | (refine bl_set ?_ (by first | exact Nat.le_refl _ | (simp; done) | (simp; omega)) _) | (refine bl_trans ?_ (by assumption))))) hms).mono ?_; rintro e w' ⟨rfl, dd, rfl⟩))
      go_ret2
      rw [H.out.1, H.out.2]
      exact ⟨rfl, by repeat (first | exact Below.refl _ _ | assumption | apply bl_alloc | apply bl_drewN | apply Below.drew | (refine bl_set ?_ (by first | exact Nat.le_refl _ | (simp; done) | (simp; omega)) _) | (refine bl_trans ?_ (by assumption)))⟩
    · have H := Lib.hid (cf_3 k1 k2)
      go_enter Try.func25, Try.ntmps25
      go_wp2_with (first | (go_at_call 41; refine (l04Ok_any _ w.heap.size J A n k fl (by simp [go_sem]) (by simp [go_sem]) (HA.out.below (by repeat (first | exact Below.refl _ _ | assumption | apply bl_alloc | apply bl_drewN | apply Below.drew | (refine bl_set ?_ (by first | exact Nat.le_refl _ | (simp; done) | (simp; omega)) _) | (refine bl_trans ?_ (by assumption))))) HL.out hm).mono ?_; rintro e w1 ⟨rfl, hb1⟩; have kx : w1.heap[w.heap.size]? = some (.cells #[.int .i64 J, .slice A n k] 29 (0, 0)) := keep_blk (hb := hb1) (h := heap_alloc_new _ _); obtain ⟨x0, x1, xl⟩ := row_two kx) | (go_at_call 54; refine (l00Rises_any _ _ _ _ _ _ (HS.out.below (by repeat (first | exact Below.refl _ _ | assumption | apply bl_alloc | apply bl_drewN | apply Below.drew | (refine bl_set ?_ (by first | exact Nat.le_refl _ | (simp; done) | (simp; omega)) _) | (refine bl_trans ?_ (by assumption))))) hms).mono ?_; rintro e w' ⟨rfl, dd, rfl⟩) | (go_at_call 55; refine (specCut _ w.heap.size J A _ n k _ fl _ (by first | exact x0 | simp [go_sem, x0]) (by first | exact x1 | simp [go_sem, x1]) (HA.out.below (by repeat (first | exact Below.refl _ _ | assumption | apply bl_alloc | apply bl_drewN | apply Below.drew | (refine bl_set ?_ (by first | exact Nat.le_refl _ | (simp; done) | (simp; omega)) _) | (refine bl_trans ?_ (by assumption))))) HL.out hm (HS.out.below (by repeat (first | exact Below.refl _ _ | assumption | apply bl_alloc | apply bl_drewN | apply Below.drew | (refine bl_set ?_ (by first | exact Nat.le_refl _ | (simp; done) | (simp; omega)) _) | (refine bl_trans ?_ (by assumption))))) hms N.out.2.1 (fun i hi => (N.out.2.2 i hi).2.2.2)).mono ?_; rintro e w' ⟨rfl, rfl⟩))
      go_ret2
      rw [H.out.1, H.out.2]
      exact ⟨rfl, by repeat (first | exact Below.refl _ _ | assumption | apply bl_alloc | apply bl_drewN | apply Below.drew | (refine bl_set ?_ (by first | exact Nat.le_refl _ | (simp; done) | (simp; omega)) _) | (refine bl_trans ?_ (by assumption)))⟩
end Go.Proofs.Ythgdiddgooippaa
