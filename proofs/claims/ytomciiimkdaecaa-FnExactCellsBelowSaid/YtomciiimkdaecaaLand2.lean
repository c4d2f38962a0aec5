/-
  Contracts on lands, the second part: heights of cells, cells below a level, volumes, the level for a volume. They hold for every land of at most 1048576 heights.
-/
import Derived.Test.YtomciiimkdaecaaLand
namespace Go.Proofs.Ytomciiimkdaecaa
open Go.RowKit
def CellNo (w : World) (e : Ending) (w' : World) : Prop := ∃ x, e = .returned (.tuple #[.int .i64 x, .bool false]) ∧ Below w.heap.size w w'

set_option maxHeartbeats 800000 in
theorem cell_no (w : World) (r c : Int) (A : Option Addr) (k : Nat) (hs : List Int) (i j : Int) (hr : 1 ≤ r ∧ r ≤ 12) (hc : 1 ≤ c ∧ c ≤ 12) (k1 : inR i 0 (r - 1) = false) :
    Calls Try.prog 53 #[.agg #[.int .i64 r, .int .i64 c, .slice A hs.length k], .int .i64 i, .int .i64 j] w (CellNo w) := by
  go_enter Try.func53, Try.ntmps53
  go_wp2
  go_quiet ((go_at_call 49; first | with_reducible exact quiet_eq (in_lit k1 _) | with_reducible exact quiet_add_eq (in_lit k1 _) | with_reducible exact quiet_eq (in_lit k2 _) | with_reducible exact quiet_add_eq (in_lit k2 _)))
  go_wp2
  refine bodyPost_ret (results_tmp2 rfl _ _ _) rfl ?_
  exact ⟨_, rfl, by repeat (first | exact Below.refl _ _ | assumption | apply bl_alloc | apply bl_drewN | apply Below.drew | (refine bl_set ?_ (by first | exact Nat.le_refl _ | (simp; done) | (simp; omega)) _) | (refine bl_trans ?_ (by assumption)))⟩
set_option maxHeartbeats 800000 in
theorem cell_no2 (w : World) (r c : Int) (A : Option Addr) (k : Nat) (hs : List Int) (i j : Int) (hr : 1 ≤ r ∧ r ≤ 12) (hc : 1 ≤ c ∧ c ≤ 12) (k1 : inR i 0 (r - 1) = true) (k2 : inR j 0 (c - 1) = false) :
    Calls Try.prog 53 #[.agg #[.int .i64 r, .int .i64 c, .slice A hs.length k], .int .i64 i, .int .i64 j] w (CellNo w) := by
  go_enter Try.func53, Try.ntmps53
  go_wp2
  go_quiet ((go_at_call 49; first | with_reducible exact quiet_eq (in_lit k1 _) | with_reducible exact quiet_add_eq (in_lit k1 _) | with_reducible exact quiet_eq (in_lit k2 _) | with_reducible exact quiet_add_eq (in_lit k2 _)))
  go_wp2
  refine bodyPost_ret (results_tmp2 rfl _ _ _) rfl ?_
  exact ⟨_, rfl, by repeat (first | exact Below.refl _ _ | assumption | apply bl_alloc | apply bl_drewN | apply Below.drew | (refine bl_set ?_ (by first | exact Nat.le_refl _ | (simp; done) | (simp; omega)) _) | (refine bl_trans ?_ (by assumption)))⟩
set_option maxHeartbeats 800000 in
theorem cell_yes (w : World) (r c : Int) (A : Option Addr) (k : Nat) (hs : List Int) (i j : Int) (hr : 1 ≤ r ∧ r ≤ 12) (hc : 1 ≤ c ∧ c ≤ 12) (k1 : inR i 0 (r - 1) = true) (k2 : inR j 0 (c - 1) = true) :
    Calls Try.prog 53 #[.agg #[.int .i64 r, .int .i64 c, .slice A hs.length k], .int .i64 i, .int .i64 j] w fun e w' => e = .returned (.tuple #[.int .i64 (i * c + j), .bool true]) ∧ Below w.heap.size w w' := by
  have b1 := inR_of k1
  have b2 := inR_of k2
  have b3 := cell_bd (n := (r * c).toNat) b1 b2 (by have := mul_bd hr hc; omega)
  have b4 := mul_bd hr hc
  have b5 : 0 ≤ i * c := Int.mul_nonneg b1.1 (by omega)
  go_enter Try.func53, Try.ntmps53
  go_wp2
  go_quiet ((go_at_call 49; first | with_reducible exact quiet_eq (in_lit k1 _) | with_reducible exact quiet_add_eq (in_lit k1 _) | with_reducible exact quiet_eq (in_lit k2 _) | with_reducible exact quiet_add_eq (in_lit k2 _)))
  go_wp2
  go_ret2
  exact ⟨rfl, by repeat (first | exact Below.refl _ _ | assumption | apply bl_alloc | apply bl_drewN | apply Below.drew | (refine bl_set ?_ (by first | exact Nat.le_refl _ | (simp; done) | (simp; omega)) _) | (refine bl_trans ?_ (by assumption)))⟩
set_option maxHeartbeats 1600000 in
theorem implHeight (w : World) (r c : Int) (A : Option Addr) (k : Nat) (hs : List Int) (i j : Int) (hA : RC w A (ints hs)) (hm : hs.length ≤ 1048576) : Calls Try.prog 21 #[.agg #[.int .i64 r, .int .i64 c, .slice A hs.length k], .int .i64 i, .int .i64 j] w
    fun e w' => e = .returned (.tuple #[.int .i64 (heightV r c hs i j), .int .i64 (heightC r c hs i j)]) ∧ Below w.heap.size w w' := by
  have HA := Lib.hid hA
  clear hA
  cases k0 : landOk r c hs
  · have H := Lib.hid (height_bad1 (i := i) (j := j) k0)
    go_enter Try.func21, Try.ntmps21
    go_wp2_with ((go_at_call 19; refine (implValidLand _ _ _ _ _ _ (HA.out.below (by repeat (first | exact Below.refl _ _ | assumption | apply bl_alloc | apply bl_drewN | apply Below.drew | (refine bl_set ?_ (by first | exact Nat.le_refl _ | (simp; done) | (simp; omega)) _) | (refine bl_trans ?_ (by assumption))))) hm).mono ?_; rintro e w1 ⟨rfl, hb1⟩; have hk := keep_blk (hb := hb1) (h := by first | exact hk | exact heap_alloc_new _ _ | (repeat (first | (refine blk_new ?_; (first | rfl | (simp; done) | (simp; omega))) | refine blk_drewN ?_ | refine blk_old ?_))); obtain ⟨hc0, hc1, hc2, hlt⟩ := row_three hk))
    go_ret2
    exact ⟨ret_two H.out.1.symm H.out.2.symm, by repeat (first | exact Below.refl _ _ | assumption | apply bl_alloc | apply bl_drewN | apply Below.drew | (refine bl_set ?_ (by first | exact Nat.le_refl _ | (simp; done) | (simp; omega)) _) | (refine bl_trans ?_ (by assumption)))⟩
  · have l0 := landOk_of k0
    cases k1 : inR i 0 (r - 1)
    · have H := Lib.hid (height_bad2 (j := j) k0 k1)
      go_enter Try.func21, Try.ntmps21
      go_wp2_with (first | (go_at_call 19; refine (implValidLand _ _ _ _ _ _ (HA.out.below (by repeat (first | exact Below.refl _ _ | assumption | apply bl_alloc | apply bl_drewN | apply Below.drew | (refine bl_set ?_ (by first | exact Nat.le_refl _ | (simp; done) | (simp; omega)) _) | (refine bl_trans ?_ (by assumption))))) hm).mono ?_; rintro e w1 ⟨rfl, hb1⟩; have hk := keep_blk (hb := hb1) (h := by first | exact hk | exact heap_alloc_new _ _ | (repeat (first | (refine blk_new ?_; (first | rfl | (simp; done) | (simp; omega))) | refine blk_drewN ?_ | refine blk_old ?_))); obtain ⟨hc0, hc1, hc2, hlt⟩ := row_three hk) | (go_at_call 53; refine (cell_no _ _ _ _ _ _ _ _ l0.1 l0.2.1 k1).mono ?_; rintro e w1 ⟨x, rfl, hb1⟩; have hk := keep_blk (hb := hb1) (h := by first | exact hk | exact heap_alloc_new _ _ | (repeat (first | (refine blk_new ?_; (first | rfl | (simp; done) | (simp; omega))) | refine blk_drewN ?_ | refine blk_old ?_))); obtain ⟨hc0, hc1, hc2, hlt⟩ := row_three hk))
      go_ret2
      exact ⟨ret_two H.out.1.symm H.out.2.symm, by repeat (first | exact Below.refl _ _ | assumption | apply bl_alloc | apply bl_drewN | apply Below.drew | (refine bl_set ?_ (by first | exact Nat.le_refl _ | (simp; done) | (simp; omega)) _) | (refine bl_trans ?_ (by assumption)))⟩
    · cases k2 : inR j 0 (c - 1)
      · have H := Lib.hid (height_bad3 (i := i) k0 k2)
        go_enter Try.func21, Try.ntmps21
        go_wp2_with (first | (go_at_call 19; refine (implValidLand _ _ _ _ _ _ (HA.out.below (by repeat (first | exact Below.refl _ _ | assumption | apply bl_alloc | apply bl_drewN | apply Below.drew | (refine bl_set ?_ (by first | exact Nat.le_refl _ | (simp; done) | (simp; omega)) _) | (refine bl_trans ?_ (by assumption))))) hm).mono ?_; rintro e w1 ⟨rfl, hb1⟩; have hk := keep_blk (hb := hb1) (h := by first | exact hk | exact heap_alloc_new _ _ | (repeat (first | (refine blk_new ?_; (first | rfl | (simp; done) | (simp; omega))) | refine blk_drewN ?_ | refine blk_old ?_))); obtain ⟨hc0, hc1, hc2, hlt⟩ := row_three hk) | (go_at_call 53; refine (cell_no2 _ _ _ _ _ _ _ _ l0.1 l0.2.1 k1 k2).mono ?_; rintro e w1 ⟨x, rfl, hb1⟩; have hk := keep_blk (hb := hb1) (h := by first | exact hk | exact heap_alloc_new _ _ | (repeat (first | (refine blk_new ?_; (first | rfl | (simp; done) | (simp; omega))) | refine blk_drewN ?_ | refine blk_old ?_))); obtain ⟨hc0, hc1, hc2, hlt⟩ := row_three hk))
        go_ret2
        exact ⟨ret_two H.out.1.symm H.out.2.symm, by repeat (first | exact Below.refl _ _ | assumption | apply bl_alloc | apply bl_drewN | apply Below.drew | (refine bl_set ?_ (by first | exact Nat.le_refl _ | (simp; done) | (simp; omega)) _) | (refine bl_trans ?_ (by assumption)))⟩
      · have H := Lib.hid (height_ok k0 k1 k2)
        have b1 := inR_of k1
        have b2 := inR_of k2
        have b3 := cell_bd b1 b2 l0.2.2.1
        have b4 : (i * c + j).toNat < hs.length := by omega
        have L0 := Lib.hid l0
        have h144 := l0.2.2.2.2.1
        clear l0
        obtain ⟨b, off, rfl, hbl, hcell⟩ := HA.out (by rw [ints_len]; omega)
        have h1 := hcell (i * c + j).toNat (by rw [ints_len]; exact b4)
        rw [ints_get hs _ b4] at h1
        clear hcell
        go_enter Try.func21, Try.ntmps21
        go_wp2_with (first | (go_at_call 19; refine (implValidLand _ _ _ _ _ _ (HA.out.below (by repeat (first | exact Below.refl _ _ | assumption | apply bl_alloc | apply bl_drewN | apply Below.drew | (refine bl_set ?_ (by first | exact Nat.le_refl _ | (simp; done) | (simp; omega)) _) | (refine bl_trans ?_ (by assumption))))) hm).mono ?_; rintro e w1 ⟨rfl, hb1⟩; have hk := keep_blk (hb := hb1) (h := by first | exact hk | exact heap_alloc_new _ _ | (repeat (first | (refine blk_new ?_; (first | rfl | (simp; done) | (simp; omega))) | refine blk_drewN ?_ | refine blk_old ?_))); obtain ⟨hc0, hc1, hc2, hlt⟩ := row_three hk) | (go_at_call 53; refine (cell_yes _ _ _ _ _ _ _ _ L0.out.1 L0.out.2.1 k1 k2).mono ?_; rintro e w1 ⟨rfl, hb1⟩; have hk := keep_blk (hb := hb1) (h := by first | exact hk | exact heap_alloc_new _ _ | (repeat (first | (refine blk_new ?_; (first | rfl | (simp; done) | (simp; omega))) | refine blk_drewN ?_ | refine blk_old ?_))); obtain ⟨hc0, hc1, hc2, hlt⟩ := row_three hk; have h9 := (Below.cell (w := w) (w' := w1) (B := w.heap.size) (p := ⟨b, off + (i * c + j).toNat, none⟩) (by repeat (first | exact Below.refl _ _ | assumption | apply bl_alloc | apply bl_drewN | apply Below.drew | (refine bl_set ?_ (by first | exact Nat.le_refl _ | (simp; done) | (simp; omega)) _) | (refine bl_trans ?_ (by assumption)))) hbl).trans h1))
        go_ret2
        exact ⟨ret_two H.out.1.symm H.out.2.symm, by repeat (first | exact Below.refl _ _ | assumption | apply bl_alloc | apply bl_drewN | apply Below.drew | (refine bl_set ?_ (by first | exact Nat.le_refl _ | (simp; done) | (simp; omega)) _) | (refine bl_trans ?_ (by assumption)))⟩
set_option maxHeartbeats 800000 in
theorem l03Level_any (w : World) (p : Nat) (r c : Int) (A : Option Addr) (k : Nat) (hs : List Int) (y : Int) (hp0 : w.cell? ⟨p, 0, none⟩ = some (.int .i64 r)) (hp1 : w.cell? ⟨p, 1, none⟩ = some (.int .i64 c)) (hp2 : w.cell? ⟨p, 2, none⟩ = some (.slice A hs.length k)) (hA : RC w A (ints hs)) (hm : hs.length ≤ 1048576) :
    Calls Try.prog 54 #[.pointer (some ⟨p, 0, none⟩), .int .i64 y] w fun e w' => e = .returned (.int .i64 (levelC r c hs y)) ∧ ∃ d, w' = w.drewN d := by
  have HA := Lib.hid hA
  clear hA
  cases k0 : landOk r c hs
  · skip
    have H := Lib.hid (levelC_1 (y := y) k0)
    go_enter Try.func54, Try.ntmps54
    go_wp2_with (first | (go_at_call 48; refine (l03Ok_any _ _ _ _ _ _ _ hp0 hp1 hp2 (HA.out.below (by repeat (first | exact Below.refl _ _ | assumption | apply bl_alloc | apply bl_drewN | apply Below.drew | (refine bl_set ?_ (by first | exact Nat.le_refl _ | (simp; done) | (simp; omega)) _) | (refine bl_trans ?_ (by assumption))))) hm).mono ?_; rintro e w' ⟨rfl, dd, rfl⟩) | (go_at_call 66; refine (l02Level_any _ _).mono ?_; rintro e w' ⟨rfl, rfl⟩))
    go_ret
    exact ⟨ret_int H.out.symm, _, rfl⟩
  · cases k1 : lvl y
    · skip
      have H := Lib.hid (levelC_2 k0 k1)
      go_enter Try.func54, Try.ntmps54
      go_wp2_with (first | (go_at_call 48; refine (l03Ok_any _ _ _ _ _ _ _ hp0 hp1 hp2 (HA.out.below (by repeat (first | exact Below.refl _ _ | assumption | apply bl_alloc | apply bl_drewN | apply Below.drew | (refine bl_set ?_ (by first | exact Nat.le_refl _ | (simp; done) | (simp; omega)) _) | (refine bl_trans ?_ (by assumption))))) hm).mono ?_; rintro e w' ⟨rfl, dd, rfl⟩) | (go_at_call 66; refine (l02Level_any _ _).mono ?_; rintro e w' ⟨rfl, rfl⟩))
      go_ret
      exact ⟨ret_int H.out.symm, _, rfl⟩
    · skip
      have H := Lib.hid (levelC_0 k0 k1)
      go_enter Try.func54, Try.ntmps54
      go_wp2_with (first | (go_at_call 48; refine (l03Ok_any _ _ _ _ _ _ _ hp0 hp1 hp2 (HA.out.below (by repeat (first | exact Below.refl _ _ | assumption | apply bl_alloc | apply bl_drewN | apply Below.drew | (refine bl_set ?_ (by first | exact Nat.le_refl _ | (simp; done) | (simp; omega)) _) | (refine bl_trans ?_ (by assumption))))) hm).mono ?_; rintro e w' ⟨rfl, dd, rfl⟩) | (go_at_call 66; refine (l02Level_any _ _).mono ?_; rintro e w' ⟨rfl, rfl⟩))
      go_ret
      exact ⟨ret_int H.out.symm, _, rfl⟩
set_option maxHeartbeats 800000 in
theorem l03Cell_any (w : World) (p : Nat) (r c : Int) (A : Option Addr) (k : Nat) (hs : List Int) (i j : Int) (hp0 : w.cell? ⟨p, 0, none⟩ = some (.int .i64 r)) (hp1 : w.cell? ⟨p, 1, none⟩ = some (.int .i64 c)) (hp2 : w.cell? ⟨p, 2, none⟩ = some (.slice A hs.length k)) (hA : RC w A (ints hs)) (hm : hs.length ≤ 1048576) :
    Calls Try.prog 52 #[.pointer (some ⟨p, 0, none⟩), .int .i64 i, .int .i64 j] w fun e w' => e = .returned (.int .i64 (heightC r c hs i j)) ∧ ∃ d, w' = w.drewN d := by
  have HA := Lib.hid hA
  clear hA
  cases k0 : landOk r c hs
  · skip
    have H := Lib.hid ((height_bad1 (i := i) (j := j) k0).2)
    go_enter Try.func52, Try.ntmps52
    go_wp2_with (first | (go_at_call 48; refine (l03Ok_any _ _ _ _ _ _ _ hp0 hp1 hp2 (HA.out.below (by repeat (first | exact Below.refl _ _ | assumption | apply bl_alloc | apply bl_drewN | apply Below.drew | (refine bl_set ?_ (by first | exact Nat.le_refl _ | (simp; done) | (simp; omega)) _) | (refine bl_trans ?_ (by assumption))))) hm).mono ?_; rintro e w' ⟨rfl, dd, rfl⟩) | (go_at_call 59; refine (l00In_any _ _ _ _).mono ?_; rintro e w' ⟨rfl, rfl⟩))
    go_ret
    exact ⟨ret_int H.out.symm, _, rfl⟩
  · have l1 := (landOk_of k0).1
    have l2 := (landOk_of k0).2.1
    cases k1 : inR i 0 (r - 1)
    · skip
      have H := Lib.hid ((height_bad2 (j := j) k0 k1).2)
      go_enter Try.func52, Try.ntmps52
      go_wp2_with (first | (go_at_call 48; refine (l03Ok_any _ _ _ _ _ _ _ hp0 hp1 hp2 (HA.out.below (by repeat (first | exact Below.refl _ _ | assumption | apply bl_alloc | apply bl_drewN | apply Below.drew | (refine bl_set ?_ (by first | exact Nat.le_refl _ | (simp; done) | (simp; omega)) _) | (refine bl_trans ?_ (by assumption))))) hm).mono ?_; rintro e w' ⟨rfl, dd, rfl⟩) | (go_at_call 59; refine (l00In_any _ _ _ _).mono ?_; rintro e w' ⟨rfl, rfl⟩))
      go_ret
      exact ⟨ret_int H.out.symm, _, rfl⟩
    · cases k2 : inR j 0 (c - 1)
      · skip
        have H := Lib.hid ((height_bad3 (i := i) k0 k2).2)
        go_enter Try.func52, Try.ntmps52
        go_wp2_with (first | (go_at_call 48; refine (l03Ok_any _ _ _ _ _ _ _ hp0 hp1 hp2 (HA.out.below (by repeat (first | exact Below.refl _ _ | assumption | apply bl_alloc | apply bl_drewN | apply Below.drew | (refine bl_set ?_ (by first | exact Nat.le_refl _ | (simp; done) | (simp; omega)) _) | (refine bl_trans ?_ (by assumption))))) hm).mono ?_; rintro e w' ⟨rfl, dd, rfl⟩) | (go_at_call 59; refine (l00In_any _ _ _ _).mono ?_; rintro e w' ⟨rfl, rfl⟩))
        go_ret
        exact ⟨ret_int H.out.symm, _, rfl⟩
      · skip
        have H := Lib.hid ((height_ok k0 k1 k2).2)
        go_enter Try.func52, Try.ntmps52
        go_wp2_with (first | (go_at_call 48; refine (l03Ok_any _ _ _ _ _ _ _ hp0 hp1 hp2 (HA.out.below (by repeat (first | exact Below.refl _ _ | assumption | apply bl_alloc | apply bl_drewN | apply Below.drew | (refine bl_set ?_ (by first | exact Nat.le_refl _ | (simp; done) | (simp; omega)) _) | (refine bl_trans ?_ (by assumption))))) hm).mono ?_; rintro e w' ⟨rfl, dd, rfl⟩) | (go_at_call 59; refine (l00In_any _ _ _ _).mono ?_; rintro e w' ⟨rfl, rfl⟩))
        go_ret
        exact ⟨ret_int H.out.symm, _, rfl⟩
set_option maxHeartbeats 1600000 in
theorem specHeight (w : World) (r c : Int) (A : Option Addr) (k : Nat) (hs : List Int) (i j : Int) (hA : RC w A (ints hs)) (hm : hs.length ≤ 1048576) : Calls Try.prog 20 #[.agg #[.int .i64 r, .int .i64 c, .slice A hs.length k], .int .i64 i, .int .i64 j] w
    fun e w' => e = .returned (.tuple #[.int .i64 (heightV r c hs i j), .int .i64 (heightC r c hs i j)]) ∧ Below w.heap.size w w' := by
  have HA := Lib.hid hA
  clear hA
  cases k0 : landOk r c hs
  · skip
    have H := Lib.hid (height_bad1 (i := i) (j := j) k0)
    have hcc := H.out.2
    go_enter Try.func20, Try.ntmps20
    go_wp2_with ((go_at_call 52; refine (l03Cell_any _ _ r c _ k hs i j (by simp [go_sem]) (by simp [go_sem]) (by simp [go_sem]) (HA.out.below (by repeat (first | exact Below.refl _ _ | assumption | apply bl_alloc | apply bl_drewN | apply Below.drew | (refine bl_set ?_ (by first | exact Nat.le_refl _ | (simp; done) | (simp; omega)) _) | (refine bl_trans ?_ (by assumption))))) hm).mono ?_; rintro e w' ⟨rfl, dd, rfl⟩))
    go_ret2
    exact ⟨ret_two H.out.1.symm (by rw [H.out.2]), by repeat (first | exact Below.refl _ _ | assumption | apply bl_alloc | apply bl_drewN | apply Below.drew | (refine bl_set ?_ (by first | exact Nat.le_refl _ | (simp; done) | (simp; omega)) _) | (refine bl_trans ?_ (by assumption)))⟩
  · cases k1 : inR i 0 (r - 1)
    · skip
      have H := Lib.hid (height_bad2 (j := j) k0 k1)
      have hcc := H.out.2
      go_enter Try.func20, Try.ntmps20
      go_wp2_with ((go_at_call 52; refine (l03Cell_any _ _ r c _ k hs i j (by simp [go_sem]) (by simp [go_sem]) (by simp [go_sem]) (HA.out.below (by repeat (first | exact Below.refl _ _ | assumption | apply bl_alloc | apply bl_drewN | apply Below.drew | (refine bl_set ?_ (by first | exact Nat.le_refl _ | (simp; done) | (simp; omega)) _) | (refine bl_trans ?_ (by assumption))))) hm).mono ?_; rintro e w' ⟨rfl, dd, rfl⟩))
      go_ret2
      exact ⟨ret_two H.out.1.symm (by rw [H.out.2]), by repeat (first | exact Below.refl _ _ | assumption | apply bl_alloc | apply bl_drewN | apply Below.drew | (refine bl_set ?_ (by first | exact Nat.le_refl _ | (simp; done) | (simp; omega)) _) | (refine bl_trans ?_ (by assumption)))⟩
    · cases k2 : inR j 0 (c - 1)
      · skip
        have H := Lib.hid (height_bad3 (i := i) k0 k2)
        have hcc := H.out.2
        go_enter Try.func20, Try.ntmps20
        go_wp2_with ((go_at_call 52; refine (l03Cell_any _ _ r c _ k hs i j (by simp [go_sem]) (by simp [go_sem]) (by simp [go_sem]) (HA.out.below (by repeat (first | exact Below.refl _ _ | assumption | apply bl_alloc | apply bl_drewN | apply Below.drew | (refine bl_set ?_ (by first | exact Nat.le_refl _ | (simp; done) | (simp; omega)) _) | (refine bl_trans ?_ (by assumption))))) hm).mono ?_; rintro e w' ⟨rfl, dd, rfl⟩))
        go_ret2
        exact ⟨ret_two H.out.1.symm (by rw [H.out.2]), by repeat (first | exact Below.refl _ _ | assumption | apply bl_alloc | apply bl_drewN | apply Below.drew | (refine bl_set ?_ (by first | exact Nat.le_refl _ | (simp; done) | (simp; omega)) _) | (refine bl_trans ?_ (by assumption)))⟩
      · have H := Lib.hid (height_ok k0 k1 k2)
        have hcc := H.out.2
        have l0 := landOk_of k0
        have b1 := inR_of k1
        have b2 := inR_of k2
        have b3 := cell_bd b1 b2 l0.2.2.1
        have b4 : (i * c + j).toNat < hs.length := by omega
        have h144 := l0.2.2.2.2.1
        have l1 := l0.1
        have l2 := l0.2.1
        have b5 : 0 ≤ i * c := Int.mul_nonneg b1.1 (by omega)
        clear l0
        obtain ⟨b, off, rfl, hbl, hcell⟩ := HA.out (by rw [ints_len]; omega)
        have h1 := hcell (i * c + j).toNat (by rw [ints_len]; exact b4)
        rw [ints_get hs _ b4] at h1
        clear hcell
        go_enter Try.func20, Try.ntmps20
        go_wp2_with ((go_at_call 52; refine (l03Cell_any _ _ r c _ k hs i j (by simp [go_sem]) (by simp [go_sem]) (by simp [go_sem]) (HA.out.below (by repeat (first | exact Below.refl _ _ | assumption | apply bl_alloc | apply bl_drewN | apply Below.drew | (refine bl_set ?_ (by first | exact Nat.le_refl _ | (simp; done) | (simp; omega)) _) | (refine bl_trans ?_ (by assumption))))) hm).mono ?_; rintro e w' ⟨rfl, dd, rfl⟩))
        go_ret2
        exact ⟨ret_two H.out.1.symm H.out.2.symm, by repeat (first | exact Below.refl _ _ | assumption | apply bl_alloc | apply bl_drewN | apply Below.drew | (refine bl_set ?_ (by first | exact Nat.le_refl _ | (simp; done) | (simp; omega)) _) | (refine bl_trans ?_ (by assumption)))⟩
end Go.Proofs.Ytomciiimkdaecaa
