/-
  Contracts: the reference's reader of a decimal numeral. They hold for every text of at most 1048576 bytes.
-/
import Derived.Test.YtcjfdfjimcapkaaGreatDoorDec
import Derived.Test.YtcjfdfjimcapkaaGreatDoorNumPlain
import Derived.Test.YtcjfdfjimcapkaaGreatDoorName
import Derived.Deep.DeepCutAuto
namespace Go.Proofs.YtcjfdfjimcapkaaGreatDoor
set_option linter.unusedVariables false
open Go.RowKit
theorem byt_get (s : ByteArray) (k : Nat) (h : k < s.size) : ∃ b : UInt8, s.data.toList[k]? = some b ∧ byt s k = (b.toNat : Int) := by
  have h' : k < s.data.toList.length := by simpa using h
  refine ⟨_, List.getElem?_eq_getElem h', ?_⟩
  rw [byt, List.getD_eq_getElem?_getD, List.getElem?_eq_getElem h']
  rfl
theorem head_byt {s : ByteArray} (h : 0 < s.size) : (s.data.toList.head? = some 45) ↔ byt s 0 = 45 := by
  obtain ⟨b, hb, he⟩ := byt_get s 0 h
  have hh : s.data.toList.head? = some b := by rw [List.head?_eq_getElem?]; exact hb
  rw [he, hh]
  constructor
  · intro e
    cases e
    rfl
  · intro e
    have : b = 45 := UInt8.toNat_inj.1 (by have h45 : (45 : UInt8).toNat = 45 := rfl; omega)
    rw [this]
/-- the text behind a minus -/
def TailIs (s t : ByteArray) : Prop := t.data.toList = tailD s.data.toList ∧ isNeg s.data.toList = decide (t.size < s.size) ∧ t.size ≤ s.size
theorem tail_same {s : ByteArray} (h : ¬ s.data.toList.head? = some 45) : TailIs s s := ⟨by simp [tailD, h], by simp [isNeg, h], Nat.le_refl _⟩
theorem tail_cut {s : ByteArray} (h : s.data.toList.head? = some 45) (h0 : 0 < s.size) : TailIs s (s.extract 1 s.size) := by
  have e : (s.extract 1 s.size).data.toList = s.data.toList.drop 1 := by
    rw [Lib.extract_data]
    exact List.take_of_length_le (by rw [List.length_drop, Lib.size_eq]; exact Nat.le_refl _)
  refine ⟨by rw [e, tailD, if_pos h], ?_, ?_⟩
  · have : (s.extract 1 s.size).size < s.size := by rw [Lib.size_eq, e, List.length_drop, ← Lib.size_eq]; omega
    rw [decide_eq_true this]
    simp [isNeg, h]
  · rw [Lib.size_eq, e, List.length_drop, ← Lib.size_eq]; omega
theorem dig_step {t : ByteArray} {j acc : Nat} (h : Lib.decFrom 0 (t.data.toList.take j) = some acc) (hj : j < t.size) (h1 : inR (byt t j) 48 57 = true) :
    Lib.decFrom 0 (t.data.toList.take (j + 1)) = some (10 * acc + (byt t j - 48).toNat) := by
  obtain ⟨b, hb, he⟩ := byt_get t j hj
  have hr := inR_of h1
  have := Lib.decFrom_take t.data.toList j 0 acc b (b.toNat - 48) h hb (by unfold Lib.digitVal; rw [if_pos (by omega)])
  rw [this, he]
  congr 1
  omega
theorem dig_none {t : ByteArray} {j : Nat} (hj : j < t.size) (h1 : inR (byt t j) 48 57 = false) : Lib.decNat t.data.toList = none := by
  obtain ⟨b, hb, he⟩ := byt_get t j hj
  have hr := inR_not h1
  rcases hd : Lib.decNat t.data.toList with _ | m
  · rfl
  · obtain ⟨d, hdv⟩ := Lib.digit_of_decFrom _ 0 m (Lib.decNat_some hd).2 j b hb
    have := Lib.digitVal_eq hdv
    omega
theorem dig_all {t : ByteArray} {acc : Nat} (h : Lib.decFrom 0 (t.data.toList.take t.size) = some acc) (h1 : 1 ≤ t.size) : Lib.decNat t.data.toList = some acc := by
  rw [List.take_of_length_le (by rw [Lib.size_eq]; exact Nat.le_refl _)] at h
  unfold Lib.decNat
  rw [if_neg (by
    intro e
    have h2 : t.data.toList = [] := by simpa using e
    rw [Lib.size_eq, h2] at h1
    simp at h1)]
  exact h
theorem dec_nil {t : ByteArray} (h : t.size < 1) : Lib.decNat t.data.toList = none := by
  have : t.data.toList = [] := List.eq_nil_of_length_eq_zero (by rw [← Lib.size_eq]; omega)
  rw [this]
  rfl
theorem dig_lt18 {t : ByteArray} {acc : Nat} (h : Lib.decFrom 0 (t.data.toList.take t.size) = some acc) (hj : t.size ≤ 18) : acc < 1000000000000000000 := by
  refine Lib.decFrom_lt18 h ?_
  rw [List.length_take]
  omega
theorem dig_lt {t : ByteArray} {j acc : Nat} (h : Lib.decFrom 0 (t.data.toList.take j) = some acc) (hj : j ≤ 17) : acc < 100000000000000000 := Lib.decFrom_take_lt h hj
theorem ret_num {v v' : Int} {b b' : Bool} (h1 : v = v') (h2 : b = b') : Ending.returned (.tuple #[.int .i64 v, .bool b]) = .returned (.tuple #[.int .i64 v', .bool b']) := by rw [h1, h2]
theorem cmp_no {l : List UInt8} {s : ByteArray} (h : (!l == s.toList) = false) : l = s.data.toList := by
  rw [Lib.toList_data] at h
  simpa using h
theorem cmp_yes {l : List UInt8} {s : ByteArray} (h : (!l == s.toList) = true) : ¬ l = s.data.toList := by
  rw [Lib.toList_data] at h
  simpa using h
set_option maxRecDepth 100000 in
set_option maxHeartbeats 6400000 in
theorem l01Number_any (w : World) (s : ByteArray) (hm : s.size ≤ 1048576) :
    Calls Tryz.prog 8 #[.string s] w fun e w' => e = .returned (.tuple #[.int .i64 (numV s.data.toList), .bool (numB s.data.toList)]) ∧ Below w.heap.size w w' := by
  by_cases h0 : 0 < s.size
  · have hx0 := byt_eq s 0 h0
    have hne : s.toList.isEmpty = false := by
      rw [Lib.toList_data, List.isEmpty_eq_false_iff]
      intro e
      rw [Lib.size_eq, e] at h0
      simp at h0
    by_cases hc : byt s 0 = 45
    · have TI := Lib.hid (tail_cut ((head_byt h0).2 hc) h0)
      have hlt : (s.extract 1 s.size).size < s.size := by
        have e : (s.extract 1 s.size).data.toList = s.data.toList.drop 1 := by
          rw [Lib.extract_data]
          exact List.take_of_length_le (by rw [List.length_drop, Lib.size_eq]; exact Nat.le_refl _)
        rw [Lib.size_eq, e, List.length_drop, ← Lib.size_eq]; omega
      obtain ⟨t, ht⟩ : ∃ t, s.extract 1 s.size = t := ⟨_, rfl⟩
      rw [ht] at TI hlt
      by_cases h1 : t.size < 1
      · have HN := Lib.hid (num_none (l := s.data.toList) (numO_dec (by rw [← TI.out.1]; exact dec_nil h1)))
        have hq : (t.size : Int) < 1 := by omega
        go_enter Tryz.func8, Tryz.ntmps8
        go_wp2
        go_ret2
        exact ⟨ret_num HN.out.2.symm HN.out.1.symm, Below.refl _ _⟩
      · by_cases h2 : 18 < t.size
        · have HN := Lib.hid (num_none (l := s.data.toList) (numO_long (by rw [← TI.out.1, ← Lib.size_eq]; exact h2)))
          have hq : (18 : Int) < (t.size : Int) := by omega
          have hq1 : ¬ (t.size : Int) < 1 := by omega
          go_enter Tryz.func8, Tryz.ntmps8
          go_wp2
          go_ret2
          exact ⟨ret_num HN.out.2.symm HN.out.1.symm, Below.refl _ _⟩
        · have hq : ¬ (18 : Int) < (t.size : Int) := by omega
          have hq1 : ¬ (t.size : Int) < 1 := by omega
          go_enter Tryz.func8, Tryz.ntmps8
          go_wp2
          go_loopg [5, 6] t.size (fun m n i wr => ∃ j acc : Nat, j ≤ t.size ∧ m = t.size - j ∧ n = .int .i64 (acc : Int) ∧ i = .int .i64 (j : Int) ∧ Hid (Lib.decFrom 0 (t.data.toList.take j) = some acc) ∧ wr = w)
          case atStart => exact ⟨0, 0, Nat.zero_le _, rfl, rfl, rfl, Lib.hid rfl, rfl⟩
          case round =>
            obtain ⟨j, acc, hj, hgk, rfl, rfl, HA, rfl⟩ := hrel
            have HGK := Lib.hid hgk
            clear hgk
            by_cases hlt : j < t.size
            · have hacc := dig_lt HA.out (by omega)
              have hx := byt_eq t j hlt
              have bb := byt_bd t j
              cases hd : inR (byt t j) 48 57
              · have HN := Lib.hid (num_none (l := s.data.toList) (numO_dec (by rw [← TI.out.1]; exact dig_none hlt hd)))
                go_wp2_with (go_at_call 7; refine (l01Digit_any _ (by omega) (by omega) _).mono ?_; rintro e w' ⟨rfl, rfl⟩)
                go_ret2
                exact ⟨ret_num HN.out.2.symm HN.out.1.symm, Below.refl _ _⟩
              · have HS := Lib.hid (dig_step HA.out hlt hd)
                have hr := inR_of hd
                go_wp2_with (go_at_call 7; refine (l01Digit_any _ (by omega) (by omega) _).mono ?_; rintro e w' ⟨rfl, rfl⟩)
                go_roundg (t.size - (j + 1))
                case measure => rw [HGK.out]; omega
                case rel => exact ⟨j + 1, 10 * acc + (byt t j - 48).toNat, by omega, rfl, ret_v (by omega), by go_num, HS, rfl⟩
            · obtain rfl : j = t.size := by omega
              have hda := dig_all HA.out (by omega)
              have hacc := dig_lt18 HA.out (by omega)
              have HO : Hid (numO s.data.toList = some (-(acc : Int))) := Lib.hid (numO_neg (by rw [← TI.out.1]; exact hda) (by rw [← TI.out.1, ← Lib.size_eq]; omega) (by rw [TI.out.2.1]; first | (simp; done) | (simp; omega)))
              have HD := Lib.hid hda
              clear hda
              have hlt' : (t.size : Int) < (s.size : Int) := by omega
              go_wp2_with (go_at_call 19; refine (l01Dec_any _ _ (by omega) (by omega)).mono ?_; rintro e w' ⟨rfl, hB⟩)
              · rename_i hcmp
                have HN := num_bad HO.out (cmp_yes hcmp)
                go_ret2
                exact ⟨ret_num HN.2.symm HN.1.symm, hB⟩
              · rename_i hcmp
                have HN := num_ok HO.out (cmp_no hcmp)
                go_ret2
                exact ⟨ret_num HN.2.symm HN.1.symm, hB⟩
    · have hc' : (byt s 0 == 45) = false := by simpa using hc
      have TI := Lib.hid (tail_same (fun e => hc ((head_byt h0).1 e)))
      by_cases h1 : s.size < 1
      · have HN := Lib.hid (num_none (l := s.data.toList) (numO_dec (by rw [← TI.out.1]; exact dec_nil h1)))
        have hq : (s.size : Int) < 1 := by omega
        go_enter Tryz.func8, Tryz.ntmps8
        go_wp2
        go_ret2
        exact ⟨ret_num HN.out.2.symm HN.out.1.symm, Below.refl _ _⟩
      · by_cases h2 : 18 < s.size
        · have HN := Lib.hid (num_none (l := s.data.toList) (numO_long (by rw [← TI.out.1, ← Lib.size_eq]; exact h2)))
          have hq : (18 : Int) < (s.size : Int) := by omega
          have hq1 : ¬ (s.size : Int) < 1 := by omega
          go_enter Tryz.func8, Tryz.ntmps8
          go_wp2
          go_ret2
          exact ⟨ret_num HN.out.2.symm HN.out.1.symm, Below.refl _ _⟩
        · have hq : ¬ (18 : Int) < (s.size : Int) := by omega
          have hq1 : ¬ (s.size : Int) < 1 := by omega
          go_enter Tryz.func8, Tryz.ntmps8
          go_wp2
          go_loopg [5, 6] s.size (fun m n i wr => ∃ j acc : Nat, j ≤ s.size ∧ m = s.size - j ∧ n = .int .i64 (acc : Int) ∧ i = .int .i64 (j : Int) ∧ Hid (Lib.decFrom 0 (s.data.toList.take j) = some acc) ∧ wr = w)
          case atStart => exact ⟨0, 0, Nat.zero_le _, rfl, rfl, rfl, Lib.hid rfl, rfl⟩
          case round =>
            obtain ⟨j, acc, hj, hgk, rfl, rfl, HA, rfl⟩ := hrel
            have HGK := Lib.hid hgk
            clear hgk
            by_cases hlt : j < s.size
            · have hacc := dig_lt HA.out (by omega)
              have hx := byt_eq s j hlt
              have bb := byt_bd s j
              cases hd : inR (byt s j) 48 57
              · have HN := Lib.hid (num_none (l := s.data.toList) (numO_dec (by rw [← TI.out.1]; exact dig_none hlt hd)))
                go_wp2_with (go_at_call 7; refine (l01Digit_any _ (by omega) (by omega) _).mono ?_; rintro e w' ⟨rfl, rfl⟩)
                go_ret2
                exact ⟨ret_num HN.out.2.symm HN.out.1.symm, Below.refl _ _⟩
              · have HS := Lib.hid (dig_step HA.out hlt hd)
                have hr := inR_of hd
                go_wp2_with (go_at_call 7; refine (l01Digit_any _ (by omega) (by omega) _).mono ?_; rintro e w' ⟨rfl, rfl⟩)
                go_roundg (s.size - (j + 1))
                case measure => rw [HGK.out]; omega
                case rel => exact ⟨j + 1, 10 * acc + (byt s j - 48).toNat, by omega, rfl, ret_v (by omega), by go_num, HS, rfl⟩
            · obtain rfl : j = s.size := by omega
              have hda := dig_all HA.out (by omega)
              have hacc := dig_lt18 HA.out (by omega)
              have HO : Hid (numO s.data.toList = some ((acc : Int))) := Lib.hid (numO_pos (by rw [← TI.out.1]; exact hda) (by rw [← TI.out.1, ← Lib.size_eq]; omega) (by rw [TI.out.2.1]; first | (simp; done) | (simp; omega)))
              have HD := Lib.hid hda
              clear hda
              have hlt' : ¬ (s.size : Int) < (s.size : Int) := by omega
              go_wp2_with (go_at_call 19; refine (l01Dec_any _ _ (by omega) (by omega)).mono ?_; rintro e w' ⟨rfl, hB⟩)
              · rename_i hcmp
                have HN := num_bad HO.out (cmp_yes hcmp)
                go_ret2
                exact ⟨ret_num HN.2.symm HN.1.symm, hB⟩
              · rename_i hcmp
                have HN := num_ok HO.out (cmp_no hcmp)
                go_ret2
                exact ⟨ret_num HN.2.symm HN.1.symm, hB⟩
  · have e0 : s.data.toList = [] := List.eq_nil_of_length_eq_zero (by rw [← Lib.size_eq]; omega)
    obtain rfl : s = ByteArray.empty := by rw [← Lib.mk_data s, e0]; rfl
    go_enter Tryz.func8, Tryz.ntmps8
    go_wp2
    go_ret2
    exact ⟨ret_num (show (0 : Int) = numV [] from rfl) rfl, Below.refl _ _⟩
end Go.Proofs.YtcjfdfjimcapkaaGreatDoor
