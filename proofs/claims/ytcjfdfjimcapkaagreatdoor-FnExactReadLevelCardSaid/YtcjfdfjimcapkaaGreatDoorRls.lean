/-
  Contract on reading a level: the reference's. It holds for every text of at most 1048576 bytes.
-/
import Derived.Test.YtcjfdfjimcapkaaGreatDoorRlvLaw
import Derived.Test.YtcjfdfjimcapkaaGreatDoorRdAt
import Derived.Test.YtcjfdfjimcapkaaGreatDoorLvText
import Derived.Deep.QuietTactic
import Derived.IntWalk
namespace Go.Proofs.YtcjfdfjimcapkaaGreatDoor
set_option linter.unusedVariables false
set_option linter.unusedSimpArgs false
open Go.RowKit

def RsQ (l : List UInt8) (w : World) (e : Ending) (w' : World) : Prop := ∃ r b, e = .returned (.tuple #[.int .i64 r, .bool b]) ∧ RsAns l r b ∧ Below w.heap.size w w'
theorem rs_no {l : List UInt8} (h : ∀ n p a c, ¬ RsOk l n p a c) : RsAns l 0 false := ⟨(fun h' => by cases h'), fun _ => ⟨rfl, fun n p a c hk => absurd hk (h n p a c)⟩⟩
theorem rs_no2 {l : List UInt8} (h : ∀ n p a c, RsOk l n p a c → ¬ (lvl n = true ∧ lvText n = l)) : RsAns l 0 false := ⟨(fun h' => by cases h'), fun _ => ⟨rfl, h⟩⟩
theorem rs_yes {l : List UInt8} {v : Int} (h : lvl v = true) (h2 : lvText v = l) : RsAns l v true := ⟨fun _ => ⟨h, h2⟩, fun h' => by cases h'⟩
theorem byt_l (l : List UInt8) (k : Nat) : byt ⟨l.toArray⟩ k = ((l.getD k 0).toNat : Int) := rfl
theorem no_len {l : List UInt8} (h : l.length < 6) : RsAns l 0 false := rs_no fun n p a c hk => by have := hk.len; omega
theorem no_last {l : List UInt8} (h : ¬ ((l.getD (l.length - 1) 0).toNat : Int) = 109) : RsAns l 0 false := rs_no fun n p a c hk => h (by rw [hk.last]; rfl)
theorem no_head {l : List UInt8} (h1 : ¬ ((l.getD 0 0).toNat : Int) = 43) (h2 : ¬ ((l.getD 0 0).toNat : Int) = 45) : RsAns l 0 false := rs_no fun n p a c hk => by
  rcases hk.head with e | e
  · exact h1 (by rw [e]; rfl)
  · exact h2 (by rw [e]; rfl)
set_option maxRecDepth 100000 in
set_option maxHeartbeats 1600000 in
theorem specReadLevel (w : World) (l : List UInt8) (hm : l.length ≤ 1048576) : Calls Tryz.prog 4 #[.string ⟨l.toArray⟩] w (RsQ l w) := by
  obtain ⟨s, hs⟩ : ∃ s : ByteArray, (⟨l.toArray⟩ : ByteArray) = s := ⟨_, rfl⟩
  have hsz : s.size = l.length := by rw [← hs]; simp [ByteArray.size]
  have HS := Lib.hid hs
  have hm2 : s.size ≤ 1048576 := by omega
  rw [hs]
  by_cases h6 : s.size < 6
  · have H := Lib.hid (no_len (l := l) (by omega))
    have h6i : (s.size : Int) < 6 := by omega
    go_enter Tryz.func4, Tryz.ntmps4
    go_wp2
    go_ret2
    refine ⟨0, false, rfl, H.out, by repeat (first | exact Below.refl _ _ | assumption | apply bl_alloc | apply bl_drewN | apply Below.drew | (refine bl_set ?_ (by first | exact Nat.le_refl _ | (simp; done) | (simp; omega)) _) | (refine bl_trans ?_ (by assumption)))⟩
  · have h6i : ¬ (s.size : Int) < 6 := by omega
    have hi0 : 0 < s.size := by omega
    have hi1 : s.size - 1 < s.size := by omega
    have hbL := byt_eq s (s.size - 1) hi1
    have hb0 := byt_eq s 0 hi0
    have hL : byt s (s.size - 1) = ((l.getD (l.length - 1) 0).toNat : Int) := by rw [← hsz, ← hs]; rfl
    have hF : byt s 0 = ((l.getD 0 0).toNat : Int) := by rw [← hs]; rfl
    have hsub : ((s.size : Int) - 1).toNat = s.size - 1 := by omega
    by_cases hlast : byt s (s.size - 1) = 109
    · rw [hlast] at hbL
      have e1 : decide ((s.size : Int) < 6) = false := by simpa using h6i
      obtain ⟨Y, hY⟩ : ∃ Y, byt s 0 = Y := ⟨_, rfl⟩
      rw [hY] at hb0 hF
      by_cases h43 : Y = 43
      · rw [h43] at hb0 hF
        have HL0 := Lib.hid (show l.getD 0 0 = 43 from UInt8.toNat.inj (by rw [show (((43 : UInt8)).toNat : Nat) = 43 from rfl]; omega))
        have hmid : s.extract 1 (s.size - 1) = ⟨((l.drop 1).take (l.length - 2)).toArray⟩ := by
          rw [← hs]
          apply ByteArray.ext
          rw [ByteArray.data_extract]
          apply Array.ext'
          rw [Array.toList_extract]
          simp [List.extract, ByteArray.size, Nat.sub_sub]
        obtain ⟨M, hM⟩ : ∃ M, (l.drop 1).take (l.length - 2) = M := ⟨_, rfl⟩
        obtain ⟨P, hP⟩ : ∃ P, spl 46 M = P := ⟨_, rfl⟩
        have hMl : M.length ≤ 1048576 := by rw [← hM, List.length_take]; omega
        rw [hM] at hmid
        have HPM := Lib.hid (show spl 46 ((l.drop 1).take (l.length - 2)) = P by rw [hM]; exact hP)
        have HSP := Lib.hid (fun W : World => split_at W M 46 46 P rfl hP hMl)
        by_cases hp2 : P.length = 2
        · obtain ⟨p, q, rfl⟩ : ∃ p q, P = [p, q] := by
            match P, hp2 with
            | [p, q], _ => exact ⟨p, q, rfl⟩
          have HS2 := Lib.hid (fun W : World => split2_at W M 46 46 p q rfl hP hMl)
          by_cases hq2 : q.length = 2
          · obtain ⟨a, b, rfl⟩ : ∃ a b, q = [a, b] := by
              match q, hq2 with
              | [a, b], _ => exact ⟨a, b, rfl⟩
            have ha : a.toNat < 256 := a.toNat_lt
            have hb : b.toNat < 256 := b.toNat_lt
            have hqa : ((⟨#[a, b]⟩ : ByteArray)[0]'(by show 0 < 2; decide)).toNat = a.toNat := rfl
            have hqb : ((⟨#[a, b]⟩ : ByteArray)[1]'(by show 1 < 2; decide)).toNat = b.toNat := rfl
            have HQ := Lib.hid (fun n p' a' c' (hk : RsOk l n p' a' c') => (by have e := hk.parts; rw [HPM.out] at e; simp only [List.cons.injEq, and_true] at e; exact ⟨e.1.symm, e.2.1.symm, e.2.2.symm⟩ : p' = p ∧ a' = a ∧ c' = b))
            cases hda : inR (a.toNat : Int) 48 57
            · have H := Lib.hid (rs_no (l := l) fun n p' a' c' hk => by have h1 := hk.da; rw [(HQ.out n p' a' c' hk).2.1, hda] at h1; cases h1)
              clear hs hsz hL hF hY hM hP HSP
              go_enter Tryz.func4, Tryz.ntmps4
              go_wp2_with (first | (go_at_call 6; with_reducible refine (HS2.out _).mono ?_; rintro e w2 ⟨g, c0, cur, rfl, kg, f0, hc1, hb2⟩; have f1 := (cell_of_row w2 g 1 _ _ (0, 0) kg).trans hc1) | (go_at_call 7; refine (l01Digit_any _ (by omega) (by omega) _).mono ?_; rintro e w' ⟨rfl, rfl⟩))
              go_ret2
              refine ⟨0, false, rfl, H.out, by repeat (first | exact Below.refl _ _ | assumption | apply bl_alloc | apply bl_drewN | apply Below.drew | (refine bl_set ?_ (by first | exact Nat.le_refl _ | (simp; done) | (simp; omega)) _) | (refine bl_trans ?_ (by assumption)))⟩
            cases hdb : inR (b.toNat : Int) 48 57
            · have H := Lib.hid (rs_no (l := l) fun n p' a' c' hk => by have h1 := hk.db; rw [(HQ.out n p' a' c' hk).2.2, hdb] at h1; cases h1)
              clear hs hsz hL hF hY hM hP HSP
              go_enter Tryz.func4, Tryz.ntmps4
              go_wp2_with (first | (go_at_call 6; with_reducible refine (HS2.out _).mono ?_; rintro e w2 ⟨g, c0, cur, rfl, kg, f0, hc1, hb2⟩; have f1 := (cell_of_row w2 g 1 _ _ (0, 0) kg).trans hc1) | (go_at_call 7; refine (l01Digit_any _ (by omega) (by omega) _).mono ?_; rintro e w' ⟨rfl, rfl⟩))
              go_ret2
              refine ⟨0, false, rfl, H.out, by repeat (first | exact Below.refl _ _ | assumption | apply bl_alloc | apply bl_drewN | apply Below.drew | (refine bl_set ?_ (by first | exact Nat.le_refl _ | (simp; done) | (simp; omega)) _) | (refine bl_trans ?_ (by assumption)))⟩
            have hpl : p.length ≤ 1048576 := Nat.le_trans (spl_piece (show p ∈ spl 46 M by rw [hP]; simp)) hMl
            cases hnb : numB p
            · have H := Lib.hid (rs_no (l := l) fun n p' a' c' hk => by have h1 := hk.num; rw [(HQ.out n p' a' c' hk).1, hnb] at h1; cases h1)
              have HNB := Lib.hid hnb
              clear hs hsz hL hF hY hM hP HSP hnb
              go_enter Tryz.func4, Tryz.ntmps4
              go_wp2_with (first | (go_at_call 6; with_reducible refine (HS2.out _).mono ?_; rintro e w2 ⟨g, c0, cur, rfl, kg, f0, hc1, hb2⟩; have f1 := (cell_of_row w2 g 1 _ _ (0, 0) kg).trans hc1) | (go_at_call 7; refine (l01Digit_any _ (by omega) (by omega) _).mono ?_; rintro e w' ⟨rfl, rfl⟩) | (go_at_call 8; with_reducible refine (number_at _ p _ HNB.out hpl).mono ?_; rintro e w5 ⟨rfl, hb5⟩))
              go_ret2
              refine ⟨0, false, rfl, H.out, by repeat (first | exact Below.refl _ _ | assumption | apply bl_alloc | apply bl_drewN | apply Below.drew | (refine bl_set ?_ (by first | exact Nat.le_refl _ | (simp; done) | (simp; omega)) _) | (refine bl_trans ?_ (by assumption)))⟩
            cases hin : inR (numV p) 0 20
            · have H := Lib.hid (rs_no (l := l) fun n p' a' c' hk => by have h1 := hk.le; rw [(HQ.out n p' a' c' hk).1, hin] at h1; cases h1)
              have HNB := Lib.hid hnb
              clear hs hsz hL hF hY hM hP HSP hnb
              go_enter Tryz.func4, Tryz.ntmps4
              go_wp2_with (first | (go_at_call 6; with_reducible refine (HS2.out _).mono ?_; rintro e w2 ⟨g, c0, cur, rfl, kg, f0, hc1, hb2⟩; have f1 := (cell_of_row w2 g 1 _ _ (0, 0) kg).trans hc1) | (go_at_call 7; refine (l01Digit_any _ (by omega) (by omega) _).mono ?_; rintro e w' ⟨rfl, rfl⟩) | (go_at_call 8; with_reducible refine (number_at _ p _ HNB.out hpl).mono ?_; rintro e w5 ⟨rfl, hb5⟩) | (go_at_call 9; refine (l00In_any _ _ _ _).mono ?_; rintro e w' ⟨rfl, rfl⟩))
              go_ret2
              refine ⟨0, false, rfl, H.out, by repeat (first | exact Below.refl _ _ | assumption | apply bl_alloc | apply bl_drewN | apply Below.drew | (refine bl_set ?_ (by first | exact Nat.le_refl _ | (simp; done) | (simp; omega)) _) | (refine bl_trans ?_ (by assumption)))⟩
            have HNB := Lib.hid hnb
            obtain ⟨X, hX⟩ : ∃ X, numV p = X := ⟨_, rfl⟩
            have xb := inR_of hin
            have ab := inR_of hda
            have bb := inR_of hdb
            rw [hX] at hin xb
            have HX := Lib.hid hX
            obtain ⟨n, hn⟩ : ∃ n : Int, 100 * X + 10 * ((a.toNat : Int) - 48) + ((b.toNat : Int) - 48) = n := ⟨_, rfl⟩
            have nb : 0 ≤ n ∧ n ≤ 2099 := by omega
            have q1 := IntWalk.i64_in (n) (by omega)
            have HVN := Lib.hid (fun n' p' a' c' (hk : RsOk l n' p' a' c') => (by
              have e := hk.val
              obtain ⟨e1, e2, e3⟩ := HQ.out n' p' a' c' hk
              rw [e1, e2, e3, HX.out, hn, if_neg (show ¬ l.getD 0 0 = 45 by rw [HL0.out]; decide)] at e
              exact e : n' = n))
            have HN := Lib.hid hn
            cases hlv : lvl (n)
            · have H := Lib.hid (rs_no2 (l := l) fun n' p' a' c' hk h => by rw [HVN.out n' p' a' c' hk, hlv] at h; cases h.1)
              clear hs hsz hL hF hY hM hP HSP hnb hX hn
              go_enter Tryz.func4, Tryz.ntmps4
              go_wp2_with (first | (go_at_call 6; with_reducible refine (HS2.out _).mono ?_; rintro e w2 ⟨g, c0, cur, rfl, kg, f0, hc1, hb2⟩; have f1 := (cell_of_row w2 g 1 _ _ (0, 0) kg).trans hc1) | (go_at_call 7; refine (l01Digit_any _ (by omega) (by omega) _).mono ?_; rintro e w' ⟨rfl, rfl⟩) | (go_at_call 8; with_reducible refine (number_at _ p _ HNB.out hpl).mono ?_; rintro e w5 ⟨rfl, hb5⟩; rw [HX.out]; have f1' := (hb5.cell (p := ⟨g, 1, none⟩) (blk_lt kg)).trans f1) | (go_at_call 9; refine (l00In_any _ _ _ _).mono ?_; rintro e w' ⟨rfl, rfl⟩))
              go_quiet (fail)
              rw [HN.out]
              go_wp2_with ((go_at_call 10; refine (l02Level_any _ _).mono ?_; rintro e w' ⟨rfl, rfl⟩))
              go_ret2
              refine ⟨0, false, rfl, H.out, by repeat (first | exact Below.refl _ _ | assumption | apply bl_alloc | apply bl_drewN | apply Below.drew | (refine bl_set ?_ (by first | exact Nat.le_refl _ | (simp; done) | (simp; omega)) _) | (refine bl_trans ?_ (by assumption)))⟩
            · have HLV := Lib.hid hlv
              by_cases ht : lvText (n) = l
              · have H := Lib.hid (rs_yes hlv ht)
                have HT := Lib.hid (fun W : World => (by have h1 := l02Text_any W (n) HLV.out; rw [← lv_yes HLV.out, ht, HS.out] at h1; exact h1 : Calls Tryz.prog 11 #[.int .i64 (n)] W fun e w' => e = .returned (.string s) ∧ Below W.heap.size W w'))
                clear hs hsz hL hF hY hM hP HSP hnb hX hn ht
                go_enter Tryz.func4, Tryz.ntmps4
                go_wp2_with (first | (go_at_call 6; with_reducible refine (HS2.out _).mono ?_; rintro e w2 ⟨g, c0, cur, rfl, kg, f0, hc1, hb2⟩; have f1 := (cell_of_row w2 g 1 _ _ (0, 0) kg).trans hc1) | (go_at_call 7; refine (l01Digit_any _ (by omega) (by omega) _).mono ?_; rintro e w' ⟨rfl, rfl⟩) | (go_at_call 8; with_reducible refine (number_at _ p _ HNB.out hpl).mono ?_; rintro e w5 ⟨rfl, hb5⟩; rw [HX.out]; have f1' := (hb5.cell (p := ⟨g, 1, none⟩) (blk_lt kg)).trans f1) | (go_at_call 9; refine (l00In_any _ _ _ _).mono ?_; rintro e w' ⟨rfl, rfl⟩))
                go_quiet (fail)
                rw [HN.out]
                go_wp2_with (first | (go_at_call 10; refine (l02Level_any _ _).mono ?_; rintro e w' ⟨rfl, rfl⟩) | (go_at_call 11; with_reducible refine (HT.out _).mono ?_; rintro e w6 ⟨rfl, hb6⟩))
                go_ret2
                refine ⟨n, true, rfl, H.out, by repeat (first | exact Below.refl _ _ | assumption | apply bl_alloc | apply bl_drewN | apply Below.drew | (refine bl_set ?_ (by first | exact Nat.le_refl _ | (simp; done) | (simp; omega)) _) | (refine bl_trans ?_ (by assumption)))⟩
              · have H := Lib.hid (rs_no2 (l := l) fun n' p' a' c' hk h => ht (by rw [HVN.out n' p' a' c' hk] at h; exact h.2))
                obtain ⟨tx, htx⟩ : ∃ tx, (⟨(lvText (n)).toArray⟩ : ByteArray) = tx := ⟨_, rfl⟩
                have hne : (tx.toList == s.toList) = false := by
                  rw [beq_eq_false_iff_ne]
                  intro h
                  rw [Lib.toList_data, Lib.toList_data, ← htx, ← hs] at h
                  exact ht (by simpa using h)
                have HT := Lib.hid (fun W : World => (by have h1 := l02Text_any W (n) HLV.out; rw [← lv_yes HLV.out, htx] at h1; exact h1 : Calls Tryz.prog 11 #[.int .i64 (n)] W fun e w' => e = .returned (.string tx) ∧ Below W.heap.size W w'))
                clear hs hsz hL hF hY hM hP HSP hnb hX hn ht htx
                go_enter Tryz.func4, Tryz.ntmps4
                go_wp2_with (first | (go_at_call 6; with_reducible refine (HS2.out _).mono ?_; rintro e w2 ⟨g, c0, cur, rfl, kg, f0, hc1, hb2⟩; have f1 := (cell_of_row w2 g 1 _ _ (0, 0) kg).trans hc1) | (go_at_call 7; refine (l01Digit_any _ (by omega) (by omega) _).mono ?_; rintro e w' ⟨rfl, rfl⟩) | (go_at_call 8; with_reducible refine (number_at _ p _ HNB.out hpl).mono ?_; rintro e w5 ⟨rfl, hb5⟩; rw [HX.out]; have f1' := (hb5.cell (p := ⟨g, 1, none⟩) (blk_lt kg)).trans f1) | (go_at_call 9; refine (l00In_any _ _ _ _).mono ?_; rintro e w' ⟨rfl, rfl⟩))
                go_quiet (fail)
                rw [HN.out]
                go_wp2_with (first | (go_at_call 10; refine (l02Level_any _ _).mono ?_; rintro e w' ⟨rfl, rfl⟩) | (go_at_call 11; with_reducible refine (HT.out _).mono ?_; rintro e w6 ⟨rfl, hb6⟩))
                go_ret2
                refine ⟨0, false, rfl, H.out, by repeat (first | exact Below.refl _ _ | assumption | apply bl_alloc | apply bl_drewN | apply Below.drew | (refine bl_set ?_ (by first | exact Nat.le_refl _ | (simp; done) | (simp; omega)) _) | (refine bl_trans ?_ (by assumption)))⟩
          · have H := Lib.hid (rs_no (l := l) fun n p' a c hk => hq2 (by have e := hk.parts; rw [HPM.out] at e; injection e with _ e; injection e with e _; rw [e]; rfl))
            have e9 : ((q.length : Int) != 2) = true := by simp; omega
            clear hs hsz hL hF hY hM hP HSP
            go_enter Tryz.func4, Tryz.ntmps4
            go_wp2_with ((go_at_call 6; with_reducible refine (HS2.out _).mono ?_; rintro e w2 ⟨g, c0, cur, rfl, kg, f0, hc1, hb2⟩; have f1 := (cell_of_row w2 g 1 _ _ (0, 0) kg).trans hc1))
            go_ret2
            refine ⟨0, false, rfl, H.out, by repeat (first | exact Below.refl _ _ | assumption | apply bl_alloc | apply bl_drewN | apply Below.drew | (refine bl_set ?_ (by first | exact Nat.le_refl _ | (simp; done) | (simp; omega)) _) | (refine bl_trans ?_ (by assumption)))⟩
        · have H := Lib.hid (rs_no (l := l) fun n p a c hk => hp2 (by rw [← HPM.out, hk.parts]; rfl))
          clear hs hsz hL hF hY hM hP
          go_enter Tryz.func4, Tryz.ntmps4
          go_wp2_with ((go_at_call 6; with_reducible refine (HSP.out _).mono ?_; rintro e w2 ⟨g, c0, cur, rfl, hg, kg, hcur, hb2⟩))
          go_ret2
          refine ⟨0, false, rfl, H.out, by repeat (first | exact Below.refl _ _ | assumption | apply bl_alloc | apply bl_drewN | apply Below.drew | (refine bl_set ?_ (by first | exact Nat.le_refl _ | (simp; done) | (simp; omega)) _) | (refine bl_trans ?_ (by assumption)))⟩
      by_cases h45 : Y = 45
      · rw [h45] at hb0 hF
        have HL0 := Lib.hid (show l.getD 0 0 = 45 from UInt8.toNat.inj (by rw [show (((45 : UInt8)).toNat : Nat) = 45 from rfl]; omega))
        have hmid : s.extract 1 (s.size - 1) = ⟨((l.drop 1).take (l.length - 2)).toArray⟩ := by
          rw [← hs]
          apply ByteArray.ext
          rw [ByteArray.data_extract]
          apply Array.ext'
          rw [Array.toList_extract]
          simp [List.extract, ByteArray.size, Nat.sub_sub]
        obtain ⟨M, hM⟩ : ∃ M, (l.drop 1).take (l.length - 2) = M := ⟨_, rfl⟩
        obtain ⟨P, hP⟩ : ∃ P, spl 46 M = P := ⟨_, rfl⟩
        have hMl : M.length ≤ 1048576 := by rw [← hM, List.length_take]; omega
        rw [hM] at hmid
        have HPM := Lib.hid (show spl 46 ((l.drop 1).take (l.length - 2)) = P by rw [hM]; exact hP)
        have HSP := Lib.hid (fun W : World => split_at W M 46 46 P rfl hP hMl)
        by_cases hp2 : P.length = 2
        · obtain ⟨p, q, rfl⟩ : ∃ p q, P = [p, q] := by
            match P, hp2 with
            | [p, q], _ => exact ⟨p, q, rfl⟩
          have HS2 := Lib.hid (fun W : World => split2_at W M 46 46 p q rfl hP hMl)
          by_cases hq2 : q.length = 2
          · obtain ⟨a, b, rfl⟩ : ∃ a b, q = [a, b] := by
              match q, hq2 with
              | [a, b], _ => exact ⟨a, b, rfl⟩
            have ha : a.toNat < 256 := a.toNat_lt
            have hb : b.toNat < 256 := b.toNat_lt
            have hqa : ((⟨#[a, b]⟩ : ByteArray)[0]'(by show 0 < 2; decide)).toNat = a.toNat := rfl
            have hqb : ((⟨#[a, b]⟩ : ByteArray)[1]'(by show 1 < 2; decide)).toNat = b.toNat := rfl
            have HQ := Lib.hid (fun n p' a' c' (hk : RsOk l n p' a' c') => (by have e := hk.parts; rw [HPM.out] at e; simp only [List.cons.injEq, and_true] at e; exact ⟨e.1.symm, e.2.1.symm, e.2.2.symm⟩ : p' = p ∧ a' = a ∧ c' = b))
            cases hda : inR (a.toNat : Int) 48 57
            · have H := Lib.hid (rs_no (l := l) fun n p' a' c' hk => by have h1 := hk.da; rw [(HQ.out n p' a' c' hk).2.1, hda] at h1; cases h1)
              clear hs hsz hL hF hY hM hP HSP
              go_enter Tryz.func4, Tryz.ntmps4
              go_wp2_with (first | (go_at_call 6; with_reducible refine (HS2.out _).mono ?_; rintro e w2 ⟨g, c0, cur, rfl, kg, f0, hc1, hb2⟩; have f1 := (cell_of_row w2 g 1 _ _ (0, 0) kg).trans hc1) | (go_at_call 7; refine (l01Digit_any _ (by omega) (by omega) _).mono ?_; rintro e w' ⟨rfl, rfl⟩))
              go_ret2
              refine ⟨0, false, rfl, H.out, by repeat (first | exact Below.refl _ _ | assumption | apply bl_alloc | apply bl_drewN | apply Below.drew | (refine bl_set ?_ (by first | exact Nat.le_refl _ | (simp; done) | (simp; omega)) _) | (refine bl_trans ?_ (by assumption)))⟩
            cases hdb : inR (b.toNat : Int) 48 57
            · have H := Lib.hid (rs_no (l := l) fun n p' a' c' hk => by have h1 := hk.db; rw [(HQ.out n p' a' c' hk).2.2, hdb] at h1; cases h1)
              clear hs hsz hL hF hY hM hP HSP
              go_enter Tryz.func4, Tryz.ntmps4
              go_wp2_with (first | (go_at_call 6; with_reducible refine (HS2.out _).mono ?_; rintro e w2 ⟨g, c0, cur, rfl, kg, f0, hc1, hb2⟩; have f1 := (cell_of_row w2 g 1 _ _ (0, 0) kg).trans hc1) | (go_at_call 7; refine (l01Digit_any _ (by omega) (by omega) _).mono ?_; rintro e w' ⟨rfl, rfl⟩))
              go_ret2
              refine ⟨0, false, rfl, H.out, by repeat (first | exact Below.refl _ _ | assumption | apply bl_alloc | apply bl_drewN | apply Below.drew | (refine bl_set ?_ (by first | exact Nat.le_refl _ | (simp; done) | (simp; omega)) _) | (refine bl_trans ?_ (by assumption)))⟩
            have hpl : p.length ≤ 1048576 := Nat.le_trans (spl_piece (show p ∈ spl 46 M by rw [hP]; simp)) hMl
            cases hnb : numB p
            · have H := Lib.hid (rs_no (l := l) fun n p' a' c' hk => by have h1 := hk.num; rw [(HQ.out n p' a' c' hk).1, hnb] at h1; cases h1)
              have HNB := Lib.hid hnb
              clear hs hsz hL hF hY hM hP HSP hnb
              go_enter Tryz.func4, Tryz.ntmps4
              go_wp2_with (first | (go_at_call 6; with_reducible refine (HS2.out _).mono ?_; rintro e w2 ⟨g, c0, cur, rfl, kg, f0, hc1, hb2⟩; have f1 := (cell_of_row w2 g 1 _ _ (0, 0) kg).trans hc1) | (go_at_call 7; refine (l01Digit_any _ (by omega) (by omega) _).mono ?_; rintro e w' ⟨rfl, rfl⟩) | (go_at_call 8; with_reducible refine (number_at _ p _ HNB.out hpl).mono ?_; rintro e w5 ⟨rfl, hb5⟩))
              go_ret2
              refine ⟨0, false, rfl, H.out, by repeat (first | exact Below.refl _ _ | assumption | apply bl_alloc | apply bl_drewN | apply Below.drew | (refine bl_set ?_ (by first | exact Nat.le_refl _ | (simp; done) | (simp; omega)) _) | (refine bl_trans ?_ (by assumption)))⟩
            cases hin : inR (numV p) 0 20
            · have H := Lib.hid (rs_no (l := l) fun n p' a' c' hk => by have h1 := hk.le; rw [(HQ.out n p' a' c' hk).1, hin] at h1; cases h1)
              have HNB := Lib.hid hnb
              clear hs hsz hL hF hY hM hP HSP hnb
              go_enter Tryz.func4, Tryz.ntmps4
              go_wp2_with (first | (go_at_call 6; with_reducible refine (HS2.out _).mono ?_; rintro e w2 ⟨g, c0, cur, rfl, kg, f0, hc1, hb2⟩; have f1 := (cell_of_row w2 g 1 _ _ (0, 0) kg).trans hc1) | (go_at_call 7; refine (l01Digit_any _ (by omega) (by omega) _).mono ?_; rintro e w' ⟨rfl, rfl⟩) | (go_at_call 8; with_reducible refine (number_at _ p _ HNB.out hpl).mono ?_; rintro e w5 ⟨rfl, hb5⟩) | (go_at_call 9; refine (l00In_any _ _ _ _).mono ?_; rintro e w' ⟨rfl, rfl⟩))
              go_ret2
              refine ⟨0, false, rfl, H.out, by repeat (first | exact Below.refl _ _ | assumption | apply bl_alloc | apply bl_drewN | apply Below.drew | (refine bl_set ?_ (by first | exact Nat.le_refl _ | (simp; done) | (simp; omega)) _) | (refine bl_trans ?_ (by assumption)))⟩
            have HNB := Lib.hid hnb
            obtain ⟨X, hX⟩ : ∃ X, numV p = X := ⟨_, rfl⟩
            have xb := inR_of hin
            have ab := inR_of hda
            have bb := inR_of hdb
            rw [hX] at hin xb
            have HX := Lib.hid hX
            obtain ⟨n, hn⟩ : ∃ n : Int, 100 * X + 10 * ((a.toNat : Int) - 48) + ((b.toNat : Int) - 48) = n := ⟨_, rfl⟩
            have nb : 0 ≤ n ∧ n ≤ 2099 := by omega
            have q1 := IntWalk.i64_in (-n) (by omega)
            have HVN := Lib.hid (fun n' p' a' c' (hk : RsOk l n' p' a' c') => (by
              have e := hk.val
              obtain ⟨e1, e2, e3⟩ := HQ.out n' p' a' c' hk
              rw [e1, e2, e3, HX.out, hn, if_pos HL0.out] at e
              exact e : n' = -n))
            have HN := Lib.hid hn
            cases hlv : lvl (-n)
            · have H := Lib.hid (rs_no2 (l := l) fun n' p' a' c' hk h => by rw [HVN.out n' p' a' c' hk, hlv] at h; cases h.1)
              clear hs hsz hL hF hY hM hP HSP hnb hX hn
              go_enter Tryz.func4, Tryz.ntmps4
              go_wp2_with (first | (go_at_call 6; with_reducible refine (HS2.out _).mono ?_; rintro e w2 ⟨g, c0, cur, rfl, kg, f0, hc1, hb2⟩; have f1 := (cell_of_row w2 g 1 _ _ (0, 0) kg).trans hc1) | (go_at_call 7; refine (l01Digit_any _ (by omega) (by omega) _).mono ?_; rintro e w' ⟨rfl, rfl⟩) | (go_at_call 8; with_reducible refine (number_at _ p _ HNB.out hpl).mono ?_; rintro e w5 ⟨rfl, hb5⟩; rw [HX.out]; have f1' := (hb5.cell (p := ⟨g, 1, none⟩) (blk_lt kg)).trans f1) | (go_at_call 9; refine (l00In_any _ _ _ _).mono ?_; rintro e w' ⟨rfl, rfl⟩))
              go_quiet (fail)
              rw [HN.out]
              go_wp2_with ((go_at_call 10; refine (l02Level_any _ _).mono ?_; rintro e w' ⟨rfl, rfl⟩))
              go_ret2
              refine ⟨0, false, rfl, H.out, by repeat (first | exact Below.refl _ _ | assumption | apply bl_alloc | apply bl_drewN | apply Below.drew | (refine bl_set ?_ (by first | exact Nat.le_refl _ | (simp; done) | (simp; omega)) _) | (refine bl_trans ?_ (by assumption)))⟩
            · have HLV := Lib.hid hlv
              by_cases ht : lvText (-n) = l
              · have H := Lib.hid (rs_yes hlv ht)
                have HT := Lib.hid (fun W : World => (by have h1 := l02Text_any W (-n) HLV.out; rw [← lv_yes HLV.out, ht, HS.out] at h1; exact h1 : Calls Tryz.prog 11 #[.int .i64 (-n)] W fun e w' => e = .returned (.string s) ∧ Below W.heap.size W w'))
                clear hs hsz hL hF hY hM hP HSP hnb hX hn ht
                go_enter Tryz.func4, Tryz.ntmps4
                go_wp2_with (first | (go_at_call 6; with_reducible refine (HS2.out _).mono ?_; rintro e w2 ⟨g, c0, cur, rfl, kg, f0, hc1, hb2⟩; have f1 := (cell_of_row w2 g 1 _ _ (0, 0) kg).trans hc1) | (go_at_call 7; refine (l01Digit_any _ (by omega) (by omega) _).mono ?_; rintro e w' ⟨rfl, rfl⟩) | (go_at_call 8; with_reducible refine (number_at _ p _ HNB.out hpl).mono ?_; rintro e w5 ⟨rfl, hb5⟩; rw [HX.out]; have f1' := (hb5.cell (p := ⟨g, 1, none⟩) (blk_lt kg)).trans f1) | (go_at_call 9; refine (l00In_any _ _ _ _).mono ?_; rintro e w' ⟨rfl, rfl⟩))
                go_quiet (fail)
                rw [HN.out]
                go_wp2_with (first | (go_at_call 10; refine (l02Level_any _ _).mono ?_; rintro e w' ⟨rfl, rfl⟩) | (go_at_call 11; with_reducible refine (HT.out _).mono ?_; rintro e w6 ⟨rfl, hb6⟩))
                go_ret2
                refine ⟨-n, true, rfl, H.out, by repeat (first | exact Below.refl _ _ | assumption | apply bl_alloc | apply bl_drewN | apply Below.drew | (refine bl_set ?_ (by first | exact Nat.le_refl _ | (simp; done) | (simp; omega)) _) | (refine bl_trans ?_ (by assumption)))⟩
              · have H := Lib.hid (rs_no2 (l := l) fun n' p' a' c' hk h => ht (by rw [HVN.out n' p' a' c' hk] at h; exact h.2))
                obtain ⟨tx, htx⟩ : ∃ tx, (⟨(lvText (-n)).toArray⟩ : ByteArray) = tx := ⟨_, rfl⟩
                have hne : (tx.toList == s.toList) = false := by
                  rw [beq_eq_false_iff_ne]
                  intro h
                  rw [Lib.toList_data, Lib.toList_data, ← htx, ← hs] at h
                  exact ht (by simpa using h)
                have HT := Lib.hid (fun W : World => (by have h1 := l02Text_any W (-n) HLV.out; rw [← lv_yes HLV.out, htx] at h1; exact h1 : Calls Tryz.prog 11 #[.int .i64 (-n)] W fun e w' => e = .returned (.string tx) ∧ Below W.heap.size W w'))
                clear hs hsz hL hF hY hM hP HSP hnb hX hn ht htx
                go_enter Tryz.func4, Tryz.ntmps4
                go_wp2_with (first | (go_at_call 6; with_reducible refine (HS2.out _).mono ?_; rintro e w2 ⟨g, c0, cur, rfl, kg, f0, hc1, hb2⟩; have f1 := (cell_of_row w2 g 1 _ _ (0, 0) kg).trans hc1) | (go_at_call 7; refine (l01Digit_any _ (by omega) (by omega) _).mono ?_; rintro e w' ⟨rfl, rfl⟩) | (go_at_call 8; with_reducible refine (number_at _ p _ HNB.out hpl).mono ?_; rintro e w5 ⟨rfl, hb5⟩; rw [HX.out]; have f1' := (hb5.cell (p := ⟨g, 1, none⟩) (blk_lt kg)).trans f1) | (go_at_call 9; refine (l00In_any _ _ _ _).mono ?_; rintro e w' ⟨rfl, rfl⟩))
                go_quiet (fail)
                rw [HN.out]
                go_wp2_with (first | (go_at_call 10; refine (l02Level_any _ _).mono ?_; rintro e w' ⟨rfl, rfl⟩) | (go_at_call 11; with_reducible refine (HT.out _).mono ?_; rintro e w6 ⟨rfl, hb6⟩))
                go_ret2
                refine ⟨0, false, rfl, H.out, by repeat (first | exact Below.refl _ _ | assumption | apply bl_alloc | apply bl_drewN | apply Below.drew | (refine bl_set ?_ (by first | exact Nat.le_refl _ | (simp; done) | (simp; omega)) _) | (refine bl_trans ?_ (by assumption)))⟩
          · have H := Lib.hid (rs_no (l := l) fun n p' a c hk => hq2 (by have e := hk.parts; rw [HPM.out] at e; injection e with _ e; injection e with e _; rw [e]; rfl))
            have e9 : ((q.length : Int) != 2) = true := by simp; omega
            clear hs hsz hL hF hY hM hP HSP
            go_enter Tryz.func4, Tryz.ntmps4
            go_wp2_with ((go_at_call 6; with_reducible refine (HS2.out _).mono ?_; rintro e w2 ⟨g, c0, cur, rfl, kg, f0, hc1, hb2⟩; have f1 := (cell_of_row w2 g 1 _ _ (0, 0) kg).trans hc1))
            go_ret2
            refine ⟨0, false, rfl, H.out, by repeat (first | exact Below.refl _ _ | assumption | apply bl_alloc | apply bl_drewN | apply Below.drew | (refine bl_set ?_ (by first | exact Nat.le_refl _ | (simp; done) | (simp; omega)) _) | (refine bl_trans ?_ (by assumption)))⟩
        · have H := Lib.hid (rs_no (l := l) fun n p a c hk => hp2 (by rw [← HPM.out, hk.parts]; rfl))
          clear hs hsz hL hF hY hM hP
          go_enter Tryz.func4, Tryz.ntmps4
          go_wp2_with ((go_at_call 6; with_reducible refine (HSP.out _).mono ?_; rintro e w2 ⟨g, c0, cur, rfl, hg, kg, hcur, hb2⟩))
          go_ret2
          refine ⟨0, false, rfl, H.out, by repeat (first | exact Below.refl _ _ | assumption | apply bl_alloc | apply bl_drewN | apply Below.drew | (refine bl_set ?_ (by first | exact Nat.le_refl _ | (simp; done) | (simp; omega)) _) | (refine bl_trans ?_ (by assumption)))⟩
      have H := Lib.hid (no_head (l := l) (by rw [← hF]; exact h43) (by rw [← hF]; exact h45))
      have e2 : (Y != 43) = true := by simpa using h43
      have e3 : (Y != 45) = true := by simpa using h45
      clear hs hsz hL hF hY
      go_enter Tryz.func4, Tryz.ntmps4
      go_wp2
      go_ret2
      refine ⟨0, false, rfl, H.out, by repeat (first | exact Below.refl _ _ | assumption | apply bl_alloc | apply bl_drewN | apply Below.drew | (refine bl_set ?_ (by first | exact Nat.le_refl _ | (simp; done) | (simp; omega)) _) | (refine bl_trans ?_ (by assumption)))⟩
    · have H := Lib.hid (no_last (l := l) (by rw [← hL]; exact hlast))
      have e1 : decide ((s.size : Int) < 6) = false := by simpa using h6i
      obtain ⟨Z, hZ⟩ : ∃ Z, byt s (s.size - 1) = Z := ⟨_, rfl⟩
      rw [hZ] at hbL hlast
      have e2 : (Z != 109) = true := by simpa using hlast
      clear hs hsz hL hF hZ
      go_enter Tryz.func4, Tryz.ntmps4
      go_wp2
      go_ret2
      refine ⟨0, false, rfl, H.out, by repeat (first | exact Below.refl _ _ | assumption | apply bl_alloc | apply bl_drewN | apply Below.drew | (refine bl_set ?_ (by first | exact Nat.le_refl _ | (simp; done) | (simp; omega)) _) | (refine bl_trans ?_ (by assumption)))⟩
end Go.Proofs.YtcjfdfjimcapkaaGreatDoor
