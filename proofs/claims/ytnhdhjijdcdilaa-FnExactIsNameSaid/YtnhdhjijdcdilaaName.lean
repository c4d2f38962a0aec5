/-
  Contracts: whether a text is a name. They hold for every text of at most 1048576 bytes.
-/
import Derived.Test.YtnhdhjijdcdilaaHelp
import Derived.Test.YtnhdhjijdcdilaaCurvePlain
import Derived.Test.YtnhdhjijdcdilaaBasic
import Derived.Outline
namespace Go.Proofs.Ytnhdhjijdcdilaa
set_option linter.unusedVariables false
open Go.RowKit

/-- the k-th byte of a text as a number -/
def byt (s : ByteArray) (k : Nat) : Int := ((s.data.toList.getD k 0).toNat : Int)
theorem byt_eq (s : ByteArray) (k : Nat) (h : k < s.size) : ((s[k].toNat : Nat) : Int) = byt s k := by
  have h' : k < s.data.toList.length := by simpa using h
  have e : s.data.toList.getD k 0 = s[k] := by
    rw [List.getD_eq_getElem?_getD, List.getElem?_eq_getElem h']
    rfl
  rw [byt, e]
theorem byt_bd (s : ByteArray) (k : Nat) : 0 ≤ byt s k ∧ byt s k ≤ 255 := by
  have := (s.data.toList.getD k 0).toNat_lt
  unfold byt
  omega
def nmAt (s : ByteArray) (k : Nat) : Bool := inR (byt s k) 97 122 || ((inR (byt s k) 48 57 || (byt s k == 45)) && decide (0 < k))
def nameOk (s : ByteArray) : Bool := allN (nmAt s) s.size && inR (s.size : Int) 1 12
theorem nm_1 {s : ByteArray} {k : Nat} (h : 97 ≤ byt s k) (h2 : byt s k ≤ 122) : nmAt s k = true := by simp [nmAt, inR, h, h2]
theorem nm_2 {s : ByteArray} {k : Nat} (h : 48 ≤ byt s k) (h2 : byt s k ≤ 57) (h3 : 0 < k) : nmAt s k = true := by simp [nmAt, inR, h, h2, h3]
theorem nm_3 {s : ByteArray} {k : Nat} (h : byt s k = 45) (h3 : 0 < k) : nmAt s k = true := by simp [nmAt, h, h3]
theorem nm_4 {s : ByteArray} {k : Nat} (h : byt s k < 97 ∨ 122 < byt s k) (h3 : ¬ 0 < k) : nmAt s k = false := by
  simp [nmAt, inR, h3]
  omega
theorem nm_5 {s : ByteArray} {k : Nat} (h : byt s k < 97 ∨ 122 < byt s k) (h2 : byt s k < 48 ∨ 57 < byt s k) (h3 : ¬ byt s k = 45) : nmAt s k = false := by
  simp [nmAt, inR, h3]
  omega
theorem name_no {s : ByteArray} {k : Nat} (hk : k < s.size) (h : nmAt s k = false) : nameOk s = false := by simp [nameOk, allN_no hk h]
theorem name_end {s : ByteArray} (h : allN (nmAt s) s.size = true) : nameOk s = inR (s.size : Int) 1 12 := by simp [nameOk, h]
theorem name_len {s : ByteArray} (h : inR (s.size : Int) 1 12 = false) : nameOk s = false := by simp [nameOk, h]

set_option maxHeartbeats 400000 in
theorem l01Small_any (x : Int) (h0 : 0 ≤ x) (h1 : x ≤ 255) (w : World) : Calls Try.prog 51 #[.int .u8 x] w fun e w' => e = .returned (.bool (inR x 97 122)) ∧ w = w' := by
  by_cases h2 : 97 ≤ x
  · by_cases h3 : x ≤ 122
    · have H := Lib.hid (inR_yes h2 h3)
      go_enter Try.func51, Try.ntmps51
      go_wp2
      go_ret
      exact ⟨ret_bool H.out.symm, rfl⟩
    · have H := Lib.hid (inR_hi (lo := 97) h3)
      go_enter Try.func51, Try.ntmps51
      go_wp2
      go_ret
      exact ⟨ret_bool H.out.symm, rfl⟩
  · have H := Lib.hid (inR_lo (hi := 122) h2)
    go_enter Try.func51, Try.ntmps51
    go_wp2
    go_ret
    exact ⟨ret_bool H.out.symm, rfl⟩
set_option maxHeartbeats 400000 in
theorem l01Digit_any (x : Int) (h0 : 0 ≤ x) (h1 : x ≤ 255) (w : World) : Calls Try.prog 52 #[.int .u8 x] w fun e w' => e = .returned (.bool (inR x 48 57)) ∧ w = w' := by
  by_cases h2 : 48 ≤ x
  · by_cases h3 : x ≤ 57
    · have H := Lib.hid (inR_yes h2 h3)
      go_enter Try.func52, Try.ntmps52
      go_wp2
      go_ret
      exact ⟨ret_bool H.out.symm, rfl⟩
    · have H := Lib.hid (inR_hi (lo := 48) h3)
      go_enter Try.func52, Try.ntmps52
      go_wp2
      go_ret
      exact ⟨ret_bool H.out.symm, rfl⟩
  · have H := Lib.hid (inR_lo (hi := 57) h2)
    go_enter Try.func52, Try.ntmps52
    go_wp2
    go_ret
    exact ⟨ret_bool H.out.symm, rfl⟩
set_option maxHeartbeats 3200000 in
theorem implName (s : ByteArray) (w : World) (hm : s.size ≤ 1048576) : Calls Try.prog 15 #[.string s] w fun e w' => e = .returned (.bool (nameOk s)) ∧ w = w' := by
  go_enter Try.func15, Try.ntmps15
  go_wp2
  go_loopg [3] s.size (fun m i wr => ∃ k : Nat, k ≤ s.size ∧ m = s.size - k ∧ i = .int .i64 (k : Int) ∧ allN (nmAt s) k = true ∧ wr = w)
  case atStart => exact ⟨0, Nat.zero_le _, by omega, rfl, rfl, rfl⟩
  case round =>
    obtain ⟨k, hk, hgk, rfl, ha, rfl⟩ := hrel
    have HGK := Lib.hid hgk
    have HA := Lib.hid ha
    clear hgk ha
    by_cases hlt : k < s.size
    · have hx := byt_eq s k hlt
      have HX := Lib.hid hx
      have bb := byt_bd s k
      by_cases a1 : 97 ≤ byt s k
      · by_cases a2 : byt s k ≤ 122
        · skip
          have HQ := Lib.hid (nm_1 a1 a2)
          have HS := Lib.hid (allN_yes HA.out HQ.out)
          clear hx
          have hx := HX.out
          go_wp2
          go_roundg (s.size - (k + 1))
          case measure => rw [HGK.out]; omega
          case rel => exact ⟨k + 1, by omega, rfl, by go_num, HS.out, rfl⟩
        · by_cases hk0 : 0 < k
          · skip
            have HQ := Lib.hid (name_no hlt (nm_5 (.inr (by omega)) (.inr (by omega)) (by omega)))
            clear hx
            have hx := HX.out
            go_wp2
            go_ret
            exact ⟨ret_bool HQ.out.symm, rfl⟩
          · skip
            have HQ := Lib.hid (name_no hlt (nm_4 (.inr (by omega)) hk0))
            clear hx
            have hx := HX.out
            go_wp2
            go_ret
            exact ⟨ret_bool HQ.out.symm, rfl⟩
      · by_cases hk0 : 0 < k
        · by_cases a3 : 48 ≤ byt s k
          · by_cases a4 : byt s k ≤ 57
            · skip
              have HQ := Lib.hid (nm_2 a3 a4 hk0)
              have HS := Lib.hid (allN_yes HA.out HQ.out)
              clear hx
              have hx := HX.out
              go_wp2
              go_roundg (s.size - (k + 1))
              case measure => rw [HGK.out]; omega
              case rel => exact ⟨k + 1, by omega, rfl, by go_num, HS.out, rfl⟩
            · skip
              have HQ := Lib.hid (name_no hlt (nm_5 (.inl (by omega)) (.inr (by omega)) (by omega)))
              clear hx
              have hx := HX.out
              go_wp2
              go_ret
              exact ⟨ret_bool HQ.out.symm, rfl⟩
          · by_cases a5 : byt s k = 45
            · skip
              have HQ := Lib.hid (nm_3 a5 hk0)
              have HS := Lib.hid (allN_yes HA.out HQ.out)
              clear hx
              have hx := HX.out
              go_wp2
              go_roundg (s.size - (k + 1))
              case measure => rw [HGK.out]; omega
              case rel => exact ⟨k + 1, by omega, rfl, by go_num, HS.out, rfl⟩
            · skip
              have HQ := Lib.hid (name_no hlt (nm_5 (.inl (by omega)) (.inl (by omega)) a5))
              clear hx
              have hx := HX.out
              go_wp2
              go_ret
              exact ⟨ret_bool HQ.out.symm, rfl⟩
        · by_cases a3 : 48 ≤ byt s k
          · by_cases a4 : byt s k ≤ 57
            · skip
              have HQ := Lib.hid (name_no hlt (nm_4 (.inl (by omega)) hk0))
              clear hx
              have hx := HX.out
              go_wp2
              go_ret
              exact ⟨ret_bool HQ.out.symm, rfl⟩
            · skip
              have HQ := Lib.hid (name_no hlt (nm_4 (.inl (by omega)) hk0))
              clear hx
              have hx := HX.out
              go_wp2
              go_ret
              exact ⟨ret_bool HQ.out.symm, rfl⟩
          · by_cases a5 : byt s k = 45
            · skip
              have HQ := Lib.hid (name_no hlt (nm_4 (.inl (by omega)) hk0))
              clear hx
              have hx := HX.out
              go_wp2
              go_ret
              exact ⟨ret_bool HQ.out.symm, rfl⟩
            · skip
              have HQ := Lib.hid (name_no hlt (nm_4 (.inl (by omega)) hk0))
              clear hx
              have hx := HX.out
              go_wp2
              go_ret
              exact ⟨ret_bool HQ.out.symm, rfl⟩
    · obtain rfl : k = s.size := by omega
      have HE := Lib.hid (name_end HA.out)
      go_wp2_with ((go_at_call 53; refine (in_any _ _ _ _).mono ?_; rintro e w' ⟨rfl, rfl⟩))
      go_ret
      exact ⟨ret_bool HE.out.symm, rfl⟩
set_option maxHeartbeats 3200000 in
theorem specName (s : ByteArray) (w : World) (hm : s.size ≤ 1048576) : Calls Try.prog 14 #[.string s] w fun e w' => e = .returned (.bool (nameOk s)) ∧ w = w' := by
  by_cases h0 : s.size = 0
  · have H := Lib.hid (name_len (s := s) (inR_lo (by omega)))
    have e0 : s = ByteArray.empty := by
      apply ByteArray.ext
      apply Array.eq_empty_of_size_eq_zero
      exact h0
    clear hm h0
    subst e0
    go_enter Try.func14, Try.ntmps14
    go_wp2_with fail
    go_ret
    exact ⟨ret_bool H.out.symm, rfl⟩
  · have he : s.toList.isEmpty = false := by
      rw [ByteArray.toList_eq, Bool.eq_false_iff]
      intro h
      rw [List.isEmpty_iff] at h
      have h1 := congrArg List.length h
      exact h0 (by simpa using h1)
    have h00 : 0 < s.size := by omega
    clear h0
    by_cases h12 : s.size ≤ 12
    · have hx0 := byt_eq s 0 h00
      have bb := byt_bd s 0
      cases q0 : inR (byt s 0) 97 122
      · have H := Lib.hid (name_no h00 (nm_4 (by have := inR_not q0; omega) (Nat.lt_irrefl 0)))
        go_enter Try.func14, Try.ntmps14
        go_wp2_with ((go_at_call 51; refine (l01Small_any _ (by omega) (by omega) _).mono ?_; rintro e w' ⟨rfl, rfl⟩))
        go_ret
        exact ⟨ret_bool H.out.symm, rfl⟩
      · have q1 := inR_of q0
        have HX0 := Lib.hid hx0
        have H12 := Lib.hid (inR_yes (n := (s.size : Int)) (lo := 1) (hi := 12) (by omega) (by omega))
        go_enter Try.func14, Try.ntmps14
        go_wp2_with ((go_at_call 51; refine (l01Small_any _ (by omega) (by omega) _).mono ?_; rintro e w' ⟨rfl, rfl⟩))
        clear hx0
        go_loopg [3] s.size (fun m i wr => ∃ k : Nat, k ≤ s.size ∧ m = s.size - k ∧ i = .int .i64 (k : Int) ∧ allN (nmAt s) k = true ∧ wr = w)
        case atStart => exact ⟨0, Nat.zero_le _, by omega, rfl, rfl, rfl⟩
        case round =>
          clear q0
          obtain ⟨k, hk, hgk, rfl, ha, rfl⟩ := hrel
          have HGK := Lib.hid hgk
          have HA := Lib.hid ha
          clear hgk ha
          by_cases hlt : k < s.size
          · have hx := byt_eq s k hlt
            have HX := Lib.hid hx
            have bb := byt_bd s k
            have hk0 : 0 < k ∨ (97 ≤ byt s k ∧ byt s k ≤ 122) := by
              rcases Nat.eq_zero_or_pos k with e | e
              · subst e; exact .inr q1
              · exact .inl e
            cases c1 : inR (byt s k) 97 122
            · cases c2 : inR (byt s k) 48 57
              · by_cases c3 : byt s k = 45
                · skip
                  have HQ := Lib.hid (nm_3 c3 (by have := inR_not c1; omega))
                  have HS := Lib.hid (allN_yes HA.out HQ.out)
                  clear hx
                  have hx := HX.out
                  go_wp2_with (first | (go_at_call 51; refine (l01Small_any _ (by omega) (by omega) _).mono ?_; rintro e w' ⟨rfl, rfl⟩) | (go_at_call 52; refine (l01Digit_any _ (by omega) (by omega) _).mono ?_; rintro e w' ⟨rfl, rfl⟩))
                  go_roundg (s.size - (k + 1))
                  case measure => rw [HGK.out]; omega
                  case rel => exact ⟨k + 1, by omega, rfl, by go_num, HS.out, rfl⟩
                · skip
                  have HQ := Lib.hid (name_no hlt (nm_5 (inR_not c1) (inR_not c2) c3))
                  clear hx
                  have hx := HX.out
                  go_wp2_with (first | (go_at_call 51; refine (l01Small_any _ (by omega) (by omega) _).mono ?_; rintro e w' ⟨rfl, rfl⟩) | (go_at_call 52; refine (l01Digit_any _ (by omega) (by omega) _).mono ?_; rintro e w' ⟨rfl, rfl⟩))
                  go_ret
                  exact ⟨ret_bool HQ.out.symm, rfl⟩
              · skip
                have HQ := Lib.hid (nm_2 (inR_of c2).1 (inR_of c2).2 (by have := inR_not c1; omega))
                have HS := Lib.hid (allN_yes HA.out HQ.out)
                clear hx
                have hx := HX.out
                go_wp2_with (first | (go_at_call 51; refine (l01Small_any _ (by omega) (by omega) _).mono ?_; rintro e w' ⟨rfl, rfl⟩) | (go_at_call 52; refine (l01Digit_any _ (by omega) (by omega) _).mono ?_; rintro e w' ⟨rfl, rfl⟩))
                go_roundg (s.size - (k + 1))
                case measure => rw [HGK.out]; omega
                case rel => exact ⟨k + 1, by omega, rfl, by go_num, HS.out, rfl⟩
            · skip
              have HQ := Lib.hid (nm_1 (inR_of c1).1 (inR_of c1).2)
              have HS := Lib.hid (allN_yes HA.out HQ.out)
              clear hx
              have hx := HX.out
              go_wp2_with (first | (go_at_call 51; refine (l01Small_any _ (by omega) (by omega) _).mono ?_; rintro e w' ⟨rfl, rfl⟩) | (go_at_call 52; refine (l01Digit_any _ (by omega) (by omega) _).mono ?_; rintro e w' ⟨rfl, rfl⟩))
              go_roundg (s.size - (k + 1))
              case measure => rw [HGK.out]; omega
              case rel => exact ⟨k + 1, by omega, rfl, by go_num, HS.out, rfl⟩
          · obtain rfl : k = s.size := by omega
            have HE := Lib.hid ((name_end HA.out).trans H12.out)
            go_wp2
            go_ret
            exact ⟨ret_bool HE.out.symm, rfl⟩
    · have H := Lib.hid (name_len (s := s) (inR_hi (by omega)))
      go_enter Try.func14, Try.ntmps14
      go_wp2_with ((go_at_call 51; refine (l01Small_any _ (by omega) (by omega) _).mono ?_; rintro e w' ⟨rfl, rfl⟩))
      go_ret
      exact ⟨ret_bool H.out.symm, rfl⟩
end Go.Proofs.Ytnhdhjijdcdilaa
