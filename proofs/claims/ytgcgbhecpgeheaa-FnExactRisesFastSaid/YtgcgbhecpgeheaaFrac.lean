/-
  Contracts on fractions: the size of a number, quotients rounded down, lowest terms; the program's functions and the reference's. Each holds within the bounds that it names.
-/
import Derived.Test.YtgcgbhecpgeheaaBasic
namespace Go.Proofs.Ytgcgbhecpgeheaa
open Go.RowKit

theorem abs_any (n : Int) (h1 : -9007199254740992 ≤ n) (h2 : n ≤ 9007199254740992) (w : World) :
    Calls Try.prog 85 #[.int .i64 n] w fun e w' => e = .returned (.int .i64 ((absN n : Nat) : Int)) ∧ w = w' := by
  by_cases h : 0 ≤ n
  · have H := Lib.hid (absN_nonneg h)
    go_enter Try.func85, Try.ntmps85
    go_wp2
    go_ret
    exact ⟨ret_int (by rw [H.out]), rfl⟩
  · have H := Lib.hid (absN_neg (n := n) (by omega))
    go_enter Try.func85, Try.ntmps85
    go_wp2
    go_ret
    exact ⟨ret_int (by rw [H.out]), rfl⟩
theorem l02Size_any (n : Int) (h1 : -9007199254740992 ≤ n) (h2 : n ≤ 9007199254740992) (w : World) :
    Calls Try.prog 83 #[.int .i64 n] w fun e w' => e = .returned (.int .i64 ((absN n : Nat) : Int)) ∧ w = w' := by
  by_cases h : 0 ≤ n
  · have H := Lib.hid (absN_nonneg h)
    go_enter Try.func83, Try.ntmps83
    go_wp2
    go_ret
    exact ⟨ret_int (by rw [H.out]), rfl⟩
  · have H := Lib.hid (absN_neg (n := n) (by omega))
    go_enter Try.func83, Try.ntmps83
    go_wp2
    go_ret
    exact ⟨ret_int (by rw [H.out]), rfl⟩
theorem floorDiv_any (n d : Int) (h1 : -4611686018427387904 ≤ n) (h2 : n ≤ 4611686018427387904) (hd : 1 ≤ d) (w : World) :
    Calls Try.prog 81 #[.int .i64 n, .int .i64 d] w fun e w' => e = .returned (.int .i64 (n / d)) ∧ w = w' := by
  by_cases h : 0 ≤ n
  · have b1 := ediv_bd h hd
    have b2 := emod_bd n hd
    go_enter Try.func81, Try.ntmps81
    go_wp2
    go_ret
    exact ⟨rfl, rfl⟩
  · have b1 := tdiv_bd (k := 4611686018427387904) h1 h2 hd
    by_cases hm : n.tmod d < 0
    · have H := Lib.hid (floor_lt hd hm)
      go_enter Try.func81, Try.ntmps81
      go_wp2
      go_ret
      exact ⟨ret_int H.out, rfl⟩
    · have H := Lib.hid (floor_ge hd hm)
      go_enter Try.func81, Try.ntmps81
      go_wp2
      go_ret
      exact ⟨ret_int H.out, rfl⟩
theorem l02Floor_any (n d : Int) (h1 : -4611686018427387904 ≤ n) (h2 : n ≤ 4611686018427387904) (hd : 1 ≤ d) (w : World) :
    Calls Try.prog 80 #[.int .i64 n, .int .i64 d] w fun e w' => e = .returned (.int .i64 (n / d)) ∧ w = w' := by
  by_cases h : 0 ≤ n
  · have b1 := ediv_bd h hd
    have b2 := emod_bd n hd
    go_enter Try.func80, Try.ntmps80
    go_wp2
    go_ret
    exact ⟨rfl, rfl⟩
  · have b1 := tdiv_bd (k := 4611686018427387904) h1 h2 hd
    by_cases hm : n.tmod d < 0
    · have H := Lib.hid (floor_lt hd hm)
      go_enter Try.func80, Try.ntmps80
      go_wp2
      go_ret
      exact ⟨ret_int H.out, rfl⟩
    · have H := Lib.hid (floor_ge hd hm)
      go_enter Try.func80, Try.ntmps80
      go_wp2
      go_ret
      exact ⟨ret_int H.out, rfl⟩
set_option maxHeartbeats 400000 in
theorem fraction_any (n : Int) (d : Nat) (h1 : -9007199254740992 ≤ n) (h2 : n ≤ 9007199254740992) (hd : 1 ≤ d) (hd' : d ≤ 9007199254740992) (w : World) :
    Calls Try.prog 61 #[.int .i64 n, .int .i64 (d : Int)] w fun e w' => e = .returned (.agg #[.int .i64 (n.tdiv ((gcdN (absN n) d : Nat) : Int)), .int .i64 ((d : Int) / ((gcdN (absN n) d : Nat) : Int))]) ∧ Below w.heap.size w w' := by
  have ha : absN n ≤ 9007199254740992 := absN_le (k := 9007199254740992) h1 h2
  have g1 := gcdN_pos (absN n) hd
  have b1 := tdiv_bd (k := 9007199254740992) h1 h2 g1
  have b2 := ediv_bd (n := (d : Int)) (by omega) g1
  go_enter Try.func61, Try.ntmps61
  go_wp2_with (first | (go_at_call 85; refine (abs_any _ h1 h2 _).mono ?_; rintro e w' ⟨rfl, rfl⟩) | (go_at_call 84; refine (gcd_any _ _ _ ha hd').mono ?_; rintro e w' ⟨rfl, dd, rfl⟩))
  go_region
  all_goals go_wp2
  all_goals
    refine bodyPost_ret (v := .agg #[.int .i64 (n.tdiv ((gcdN (absN n) d : Nat) : Int)), .int .i64 ((d : Int) / ((gcdN (absN n) d : Nat) : Int))]) (by simp [results, Try.results61, go_sem]) rfl ⟨rfl, ?_⟩
    repeat (first | exact Below.refl _ _ | assumption | apply bl_alloc | apply bl_drewN | apply Below.drew | (refine bl_set ?_ (by first | exact Nat.le_refl _ | (simp; done) | (simp; omega)) _) | (refine bl_trans ?_ (by assumption)))
set_option maxHeartbeats 400000 in
theorem l02Make_any (n : Int) (d : Nat) (h1 : -9007199254740992 ≤ n) (h2 : n ≤ 9007199254740992) (hd : 1 ≤ d) (hd' : d ≤ 9007199254740992) (w : World) :
    Calls Try.prog 59 #[.int .i64 n, .int .i64 (d : Int)] w fun e w' => e = .returned (.agg #[.int .i64 (n.tdiv ((gcdN (absN n) d : Nat) : Int)), .int .i64 ((d : Int) / ((gcdN (absN n) d : Nat) : Int))]) ∧ Below w.heap.size w w' := by
  have ha : absN n ≤ 9007199254740992 := absN_le (k := 9007199254740992) h1 h2
  have g1 := gcdN_pos (absN n) hd
  have b1 := tdiv_bd (k := 9007199254740992) h1 h2 g1
  have b2 := ediv_bd (n := (d : Int)) (by omega) g1
  go_enter Try.func59, Try.ntmps59
  go_wp2_with (first | (go_at_call 83; refine (l02Size_any _ h1 h2 _).mono ?_; rintro e w' ⟨rfl, rfl⟩) | (go_at_call 82; refine (l02Gcd_any _ _ _ ha hd').mono ?_; rintro e w' ⟨rfl, dd, rfl⟩))
  go_region
  all_goals go_wp2
  all_goals
    refine bodyPost_ret (v := .agg #[.int .i64 (n.tdiv ((gcdN (absN n) d : Nat) : Int)), .int .i64 ((d : Int) / ((gcdN (absN n) d : Nat) : Int))]) (by simp [results, Try.results59, go_sem]) rfl ⟨rfl, ?_⟩
    repeat (first | exact Below.refl _ _ | assumption | apply bl_alloc | apply bl_drewN | apply Below.drew | (refine bl_set ?_ (by first | exact Nat.le_refl _ | (simp; done) | (simp; omega)) _) | (refine bl_trans ?_ (by assumption)))
theorem nearest_any (n d : Int) (h1 : -1000000000000000 ≤ n) (h2 : n ≤ 1000000000000000) (h3 : 1 ≤ d) (h4 : d ≤ 1000000000) (w : World) :
    Calls Try.prog 53 #[.agg #[.int .i64 n, .int .i64 d]] w fun e w' => e = .returned (.int .i64 ((2 * n + d) / (2 * d))) ∧ Below w.heap.size w w' := by
  go_enter Try.func53, Try.ntmps53
  go_wp2_with ((go_at_call 81; refine (floorDiv_any _ _ (by omega) (by omega) (by omega) _).mono ?_; rintro e w' ⟨rfl, rfl⟩))
  go_ret
  exact ⟨rfl, by repeat (first | exact Below.refl _ _ | assumption | apply bl_alloc | apply bl_drewN | apply Below.drew | (refine bl_set ?_ (by first | exact Nat.le_refl _ | (simp; done) | (simp; omega)) _) | (refine bl_trans ?_ (by assumption)))⟩
theorem l02Round_any (n d : Int) (h1 : -1000000000000000 ≤ n) (h2 : n ≤ 1000000000000000) (h3 : 1 ≤ d) (h4 : d ≤ 1000000000) (w : World) :
    Calls Try.prog 52 #[.int .i64 n, .int .i64 d] w fun e w' => e = .returned (.int .i64 ((2 * n + d) / (2 * d))) ∧ w = w' := by
  go_enter Try.func52, Try.ntmps52
  go_wp2_with ((go_at_call 80; refine (l02Floor_any _ _ (by omega) (by omega) (by omega) _).mono ?_; rintro e w' ⟨rfl, rfl⟩))
  go_ret
  exact ⟨rfl, rfl⟩
set_option maxHeartbeats 400000 in
theorem implRound (n d : Int) (w : World) : Calls Try.prog 19 #[.agg #[.int .i64 n, .int .i64 d]] w
    fun e w' => e = .returned (.tuple #[.int .i64 (rndV n d), .int .i64 (rndC n d)]) ∧ Below w.heap.size w w' := by
  cases k1 : inR d 1 1000000000
  · have H := Lib.hid (rnd_no1 (n := n) k1)
    go_enter Try.func19, Try.ntmps19
    go_wp2_with ((go_at_call 50; refine (in_any _ _ _ _).mono ?_; rintro e w' ⟨rfl, rfl⟩))
    go_ret2
    exact ⟨ret_two H.out.1.symm H.out.2.symm, by repeat (first | exact Below.refl _ _ | assumption | apply bl_alloc | apply bl_drewN | apply Below.drew | (refine bl_set ?_ (by first | exact Nat.le_refl _ | (simp; done) | (simp; omega)) _) | (refine bl_trans ?_ (by assumption)))⟩
  · cases k2 : inR n (-1000000000000000) 1000000000000000
    · have H := Lib.hid (rnd_no2 (d := d) k2)
      go_enter Try.func19, Try.ntmps19
      go_wp2_with ((go_at_call 50; refine (in_any _ _ _ _).mono ?_; rintro e w' ⟨rfl, rfl⟩))
      go_ret2
      exact ⟨ret_two H.out.1.symm H.out.2.symm, by repeat (first | exact Below.refl _ _ | assumption | apply bl_alloc | apply bl_drewN | apply Below.drew | (refine bl_set ?_ (by first | exact Nat.le_refl _ | (simp; done) | (simp; omega)) _) | (refine bl_trans ?_ (by assumption)))⟩
    · have H := Lib.hid (rnd_yes k1 k2)
      have i1 := inR_of k1
      have i2 := inR_of k2
      go_enter Try.func19, Try.ntmps19
      go_wp2_with (first | (go_at_call 50; refine (in_any _ _ _ _).mono ?_; rintro e w' ⟨rfl, rfl⟩) | (go_at_call 53; refine (nearest_any _ _ i2.1 i2.2 i1.1 i1.2 _).mono ?_; rintro e w' ⟨rfl, hb⟩))
      go_ret2
      exact ⟨ret_two H.out.1.symm H.out.2.symm, by refine bl_trans ?_ hb; repeat (first | exact Below.refl _ _ | assumption | apply bl_alloc | apply bl_drewN | apply Below.drew | (refine bl_set ?_ (by first | exact Nat.le_refl _ | (simp; done) | (simp; omega)) _) | (refine bl_trans ?_ (by assumption)))⟩
set_option maxHeartbeats 400000 in
theorem specRound (n d : Int) (w : World) : Calls Try.prog 17 #[.agg #[.int .i64 n, .int .i64 d]] w
    fun e w' => e = .returned (.tuple #[.int .i64 (rndV n d), .int .i64 (rndC n d)]) ∧ Below w.heap.size w w' := by
  cases k1 : inR d 1 1000000000
  · have H := Lib.hid (rnd_no1 (n := n) k1)
    go_enter Try.func17, Try.ntmps17
    go_wp2_with ((go_at_call 51; refine (l00In_any _ _ _ _).mono ?_; rintro e w' ⟨rfl, rfl⟩))
    go_ret2
    exact ⟨ret_two H.out.1.symm H.out.2.symm, by repeat (first | exact Below.refl _ _ | assumption | apply bl_alloc | apply bl_drewN | apply Below.drew | (refine bl_set ?_ (by first | exact Nat.le_refl _ | (simp; done) | (simp; omega)) _) | (refine bl_trans ?_ (by assumption)))⟩
  · cases k2 : inR n (-1000000000000000) 1000000000000000
    · have H := Lib.hid (rnd_no2 (d := d) k2)
      go_enter Try.func17, Try.ntmps17
      go_wp2_with ((go_at_call 51; refine (l00In_any _ _ _ _).mono ?_; rintro e w' ⟨rfl, rfl⟩))
      go_ret2
      exact ⟨ret_two H.out.1.symm H.out.2.symm, by repeat (first | exact Below.refl _ _ | assumption | apply bl_alloc | apply bl_drewN | apply Below.drew | (refine bl_set ?_ (by first | exact Nat.le_refl _ | (simp; done) | (simp; omega)) _) | (refine bl_trans ?_ (by assumption)))⟩
    · have H := Lib.hid (rnd_yes k1 k2)
      have i1 := inR_of k1
      have i2 := inR_of k2
      go_enter Try.func17, Try.ntmps17
      go_wp2_with (first | (go_at_call 51; refine (l00In_any _ _ _ _).mono ?_; rintro e w' ⟨rfl, rfl⟩) | (go_at_call 52; refine (l02Round_any _ _ i2.1 i2.2 i1.1 i1.2 _).mono ?_; rintro e w' ⟨rfl, rfl⟩))
      go_ret2
      exact ⟨ret_two H.out.1.symm H.out.2.symm, by repeat (first | exact Below.refl _ _ | assumption | apply bl_alloc | apply bl_drewN | apply Below.drew | (refine bl_set ?_ (by first | exact Nat.le_refl _ | (simp; done) | (simp; omega)) _) | (refine bl_trans ?_ (by assumption)))⟩
set_option maxHeartbeats 800000 in
theorem implSlope (a b m : Int) (w : World) : Calls Try.prog 25 #[.int .i64 a, .int .i64 b, .int .i64 m] w
    fun e w' => e = .returned (slopeV a b m) ∧ Below w.heap.size w w' := by
  cases k1 : lvl a
  · skip
    have H := Lib.hid (slope_bad1 (a := a) (b := b) (m := m) k1)
    go_enter Try.func25, Try.ntmps25
    go_wp2_with (first | (go_at_call 60; refine (validLevel_any _ _).mono ?_; rintro e w' ⟨rfl, rfl⟩) | (go_at_call 50; refine (in_any _ _ _ _).mono ?_; rintro e w' ⟨rfl, rfl⟩))
    exact bodyPost_ret (v := .tuple #[.agg #[.int .i64 0, .int .i64 0], .int .i64 2]) (by simp [results, Try.results25, go_sem]) rfl ⟨slope_ret H.out, by repeat (first | exact Below.refl _ _ | assumption | apply bl_alloc | apply bl_drewN | apply Below.drew | (refine bl_set ?_ (by first | exact Nat.le_refl _ | (simp; done) | (simp; omega)) _) | (refine bl_trans ?_ (by assumption)))⟩
  · cases k2 : lvl b
    · skip
      have H := Lib.hid (slope_bad2 (a := a) (b := b) (m := m) k2)
      go_enter Try.func25, Try.ntmps25
      go_wp2_with (first | (go_at_call 60; refine (validLevel_any _ _).mono ?_; rintro e w' ⟨rfl, rfl⟩) | (go_at_call 50; refine (in_any _ _ _ _).mono ?_; rintro e w' ⟨rfl, rfl⟩))
      exact bodyPost_ret (v := .tuple #[.agg #[.int .i64 0, .int .i64 0], .int .i64 2]) (by simp [results, Try.results25, go_sem]) rfl ⟨slope_ret H.out, by repeat (first | exact Below.refl _ _ | assumption | apply bl_alloc | apply bl_drewN | apply Below.drew | (refine bl_set ?_ (by first | exact Nat.le_refl _ | (simp; done) | (simp; omega)) _) | (refine bl_trans ?_ (by assumption)))⟩
    · cases k3 : inR m 1 100000
      · skip
        have H := Lib.hid (slope_bad3 (a := a) (b := b) (m := m) k3)
        go_enter Try.func25, Try.ntmps25
        go_wp2_with (first | (go_at_call 60; refine (validLevel_any _ _).mono ?_; rintro e w' ⟨rfl, rfl⟩) | (go_at_call 50; refine (in_any _ _ _ _).mono ?_; rintro e w' ⟨rfl, rfl⟩))
        exact bodyPost_ret (v := .tuple #[.agg #[.int .i64 0, .int .i64 0], .int .i64 2]) (by simp [results, Try.results25, go_sem]) rfl ⟨slope_ret H.out, by repeat (first | exact Below.refl _ _ | assumption | apply bl_alloc | apply bl_drewN | apply Below.drew | (refine bl_set ?_ (by first | exact Nat.le_refl _ | (simp; done) | (simp; omega)) _) | (refine bl_trans ?_ (by assumption)))⟩
      · have i1 := lvl_of k1
        have i2 := lvl_of k2
        have i3 := inR_of k3
        obtain ⟨d, rfl⟩ : ∃ d : Nat, m = (d : Int) := ⟨m.toNat, by omega⟩
        have H := Lib.hid (slope_ok k1 k2 k3)
        go_enter Try.func25, Try.ntmps25
        go_wp2_with (first | (go_at_call 60; refine (validLevel_any _ _).mono ?_; rintro e w' ⟨rfl, rfl⟩) | (go_at_call 50; refine (in_any _ _ _ _).mono ?_; rintro e w' ⟨rfl, rfl⟩) | (go_at_call 61; refine (fraction_any _ _ (by omega) (by omega) (by omega) (by omega) _).mono ?_; rintro e w1 ⟨rfl, hb⟩; obtain ⟨hc0, hc1, hf0, hf1, hlt⟩ := cells_two (heap_alloc_new _ _) hb))
        refine bodyPost_ret (v := .tuple #[.agg #[.int .i64 ((b - a).tdiv ((gcdN (absN (b - a)) d : Nat) : Int)), .int .i64 ((d : Int) / ((gcdN (absN (b - a)) d : Nat) : Int))], .int .i64 0]) (by simp [results, Try.results25, go_sem, hc0, hc1]) rfl ⟨by rw [H.out], by repeat (first | exact Below.refl _ _ | assumption | apply bl_alloc | apply bl_drewN | apply Below.drew | (refine bl_set ?_ (by first | exact Nat.le_refl _ | (simp; done) | (simp; omega)) _) | (refine bl_trans ?_ (by assumption)))⟩
set_option maxHeartbeats 800000 in
theorem specSlope (a b m : Int) (w : World) : Calls Try.prog 24 #[.int .i64 a, .int .i64 b, .int .i64 m] w
    fun e w' => e = .returned (slopeV a b m) ∧ Below w.heap.size w w' := by
  cases k1 : lvl a
  · skip
    have H := Lib.hid (slope_bad1 (a := a) (b := b) (m := m) k1)
    go_enter Try.func24, Try.ntmps24
    go_wp2_with (first | (go_at_call 58; refine (l02Level_any _ _).mono ?_; rintro e w' ⟨rfl, rfl⟩) | (go_at_call 51; refine (l00In_any _ _ _ _).mono ?_; rintro e w' ⟨rfl, rfl⟩))
    exact bodyPost_ret (v := .tuple #[.agg #[.int .i64 0, .int .i64 0], .int .i64 2]) (by simp [results, Try.results24, go_sem]) rfl ⟨slope_ret H.out, by repeat (first | exact Below.refl _ _ | assumption | apply bl_alloc | apply bl_drewN | apply Below.drew | (refine bl_set ?_ (by first | exact Nat.le_refl _ | (simp; done) | (simp; omega)) _) | (refine bl_trans ?_ (by assumption)))⟩
  · cases k2 : lvl b
    · skip
      have H := Lib.hid (slope_bad2 (a := a) (b := b) (m := m) k2)
      go_enter Try.func24, Try.ntmps24
      go_wp2_with (first | (go_at_call 58; refine (l02Level_any _ _).mono ?_; rintro e w' ⟨rfl, rfl⟩) | (go_at_call 51; refine (l00In_any _ _ _ _).mono ?_; rintro e w' ⟨rfl, rfl⟩))
      exact bodyPost_ret (v := .tuple #[.agg #[.int .i64 0, .int .i64 0], .int .i64 2]) (by simp [results, Try.results24, go_sem]) rfl ⟨slope_ret H.out, by repeat (first | exact Below.refl _ _ | assumption | apply bl_alloc | apply bl_drewN | apply Below.drew | (refine bl_set ?_ (by first | exact Nat.le_refl _ | (simp; done) | (simp; omega)) _) | (refine bl_trans ?_ (by assumption)))⟩
    · cases k3 : inR m 1 100000
      · skip
        have H := Lib.hid (slope_bad3 (a := a) (b := b) (m := m) k3)
        go_enter Try.func24, Try.ntmps24
        go_wp2_with (first | (go_at_call 58; refine (l02Level_any _ _).mono ?_; rintro e w' ⟨rfl, rfl⟩) | (go_at_call 51; refine (l00In_any _ _ _ _).mono ?_; rintro e w' ⟨rfl, rfl⟩))
        exact bodyPost_ret (v := .tuple #[.agg #[.int .i64 0, .int .i64 0], .int .i64 2]) (by simp [results, Try.results24, go_sem]) rfl ⟨slope_ret H.out, by repeat (first | exact Below.refl _ _ | assumption | apply bl_alloc | apply bl_drewN | apply Below.drew | (refine bl_set ?_ (by first | exact Nat.le_refl _ | (simp; done) | (simp; omega)) _) | (refine bl_trans ?_ (by assumption)))⟩
      · have i1 := lvl_of k1
        have i2 := lvl_of k2
        have i3 := inR_of k3
        obtain ⟨d, rfl⟩ : ∃ d : Nat, m = (d : Int) := ⟨m.toNat, by omega⟩
        have H := Lib.hid (slope_ok k1 k2 k3)
        go_enter Try.func24, Try.ntmps24
        go_wp2_with (first | (go_at_call 58; refine (l02Level_any _ _).mono ?_; rintro e w' ⟨rfl, rfl⟩) | (go_at_call 51; refine (l00In_any _ _ _ _).mono ?_; rintro e w' ⟨rfl, rfl⟩) | (go_at_call 59; refine (l02Make_any _ _ (by omega) (by omega) (by omega) (by omega) _).mono ?_; rintro e w1 ⟨rfl, hb⟩; obtain ⟨hc0, hc1, hf0, hf1, hlt⟩ := cells_two (heap_alloc_new _ _) hb))
        refine bodyPost_ret (v := .tuple #[.agg #[.int .i64 ((b - a).tdiv ((gcdN (absN (b - a)) d : Nat) : Int)), .int .i64 ((d : Int) / ((gcdN (absN (b - a)) d : Nat) : Int))], .int .i64 0]) (by simp [results, Try.results24, go_sem, hc0, hc1]) rfl ⟨by rw [H.out], by repeat (first | exact Below.refl _ _ | assumption | apply bl_alloc | apply bl_drewN | apply Below.drew | (refine bl_set ?_ (by first | exact Nat.le_refl _ | (simp; done) | (simp; omega)) _) | (refine bl_trans ?_ (by assumption)))⟩
theorem toFraction_any (n d : Int) (w : World) : Calls Try.prog 18 #[.agg #[.int .i64 n, .int .i64 d]] w
    fun e w' => e = .returned (.agg #[.int .i64 n, .int .i64 d]) ∧ Below w.heap.size w w' := by
  go_enter Try.func18, Try.ntmps18
  go_wp2
  exact bodyPost_ret (v := .agg #[.int .i64 n, .int .i64 d]) (by simp [results, Try.results18, go_sem]) rfl ⟨rfl, by repeat (first | exact Below.refl _ _ | assumption | apply bl_alloc | apply bl_drewN | apply Below.drew | (refine bl_set ?_ (by first | exact Nat.le_refl _ | (simp; done) | (simp; omega)) _) | (refine bl_trans ?_ (by assumption)))⟩
end Go.Proofs.Ytgcgbhecpgeheaa
