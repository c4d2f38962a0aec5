/-
  Contracts on nets: what flows out of a junction, whether flows lead water to the outlet. They hold for lists of at most 1048576 numbers.
-/
import Derived.Test.YthgdiddgooippaaNetCut
import Derived.Test.YthgdiddgooippaaLeadPlain
namespace Go.Proofs.Ythgdiddgooippaa
set_option linter.unusedVariables false
open Go.RowKit

set_option maxHeartbeats 1600000 in
theorem implOut (w : World) (J j : Int) (A F : Option Addr) (k0 c : Nat) (fl fs : List Int) (hA : RC w A (ints fl)) (lf : fl.length = fs.length * 3) (hF : RC w F (ints fs)) (hn : fs.length ≤ 20) (hf : ∀ i, i < fs.length → 0 ≤ gt fs i ∧ gt fs i ≤ 1000) :
    Calls Try.prog 67 #[.agg #[.int .i64 J, .slice A fs.length k0], .int .i64 j, .slice F fs.length c] w fun e w' => e = .returned (.int .i64 (outTo fl fs j fs.length)) ∧ Below w.heap.size w w' := by
  have HA := Lib.hid hA
  have HL := Lib.hid lf
  have HF := Lib.hid hF
  clear hA lf hF
  have HQ := Lib.hid hf
  clear hf
  go_enter Try.func67, Try.ntmps67
  go_wp2
  go_loopg [7, 13] fs.length (fun m s i wr => ∃ k, k ≤ fs.length ∧ m = fs.length - k ∧ i = .int .i64 (k : Int) ∧ s = .int .i64 (outTo fl fs j k) ∧ Below w.heap.size w wr)
  case atStart => exact ⟨0, Nat.zero_le _, by omega, rfl, rfl, by repeat (first | exact Below.refl _ _ | assumption | apply bl_alloc | apply bl_drewN | apply Below.drew | (refine bl_set ?_ (by first | exact Nat.le_refl _ | (simp; done) | (simp; omega)) _) | (refine bl_trans ?_ (by assumption)))⟩
  case round =>
    obtain ⟨k, hk, hgk, rfl, rfl, hb⟩ := hrel
    have HGK := Lib.hid hgk
    clear hgk
    have bd := outTo_bd (fl := fl) HQ.out j k hk
    by_cases hlt : k < fs.length
    · have bw := HQ.out k hlt
      obtain ⟨b, off, rfl, hbl, hcell⟩ := HA.out (by rw [ints_len, HL.out]; omega)
      obtain ⟨q0, q1, q2⟩ := dit_cells hbl hcell HL.out hlt hb
      obtain ⟨b', off', rfl, hbl', hcell'⟩ := HF.out (by rw [ints_len]; omega)
      have h1 := (hb.cell (p := ⟨b', off' + k, none⟩) hbl').trans (hcell' k (by rw [ints_len]; exact hlt))
      rw [ints_get fs k hlt] at h1
      clear hcell hcell'
      have hbW : Below w.heap.size w (wr.alloc (.cells #[.int .i64 (dF fl k), .int .i64 (dT fl k), .int .i64 (dW fl k)] 38)) := by repeat (first | exact Below.refl _ _ | assumption | apply bl_alloc | apply bl_drewN | apply Below.drew | (refine bl_set ?_ (by first | exact Nat.le_refl _ | (simp; done) | (simp; omega)) _) | (refine bl_trans ?_ (by assumption)))
      have h1' : (wr.alloc (.cells #[.int .i64 (dF fl k), .int .i64 (dT fl k), .int .i64 (dW fl k)] 38)).cell? ⟨b', off' + k, none⟩ = some (.int .i64 (gt fs k)) := kc_alloc h1
      by_cases e1 : j = dF fl k
      · have HR := Lib.hid (outTo_F (fs := fs) e1)
        have b1 : (j == dF fl k) = true := by simp [e1]
        clear e1
        go_wp2
        go_roundg (fs.length - (k + 1))
        case measure => rw [HGK.out]; omega
        case rel => exact ⟨k + 1, by omega, rfl, by go_num, ret_v (by rw [HR.out]), by repeat (first | exact Below.refl _ _ | assumption | apply bl_alloc | apply bl_drewN | apply Below.drew | (refine bl_set ?_ (by first | exact Nat.le_refl _ | (simp; done) | (simp; omega)) _) | (refine bl_trans ?_ (by assumption)))⟩
      · by_cases e2 : j = dT fl k
        · have HR := Lib.hid (outTo_T (fs := fs) e1 e2)
          have b1 : (j == dF fl k) = false := by simp [e1]
          have b2 : (j == dT fl k) = true := by simp [e2]
          clear e1 e2
          go_wp2
          go_roundg (fs.length - (k + 1))
          case measure => rw [HGK.out]; omega
          case rel => exact ⟨k + 1, by omega, rfl, by go_num, ret_v (by rw [HR.out]), by repeat (first | exact Below.refl _ _ | assumption | apply bl_alloc | apply bl_drewN | apply Below.drew | (refine bl_set ?_ (by first | exact Nat.le_refl _ | (simp; done) | (simp; omega)) _) | (refine bl_trans ?_ (by assumption)))⟩
        · have HR := Lib.hid (outTo_N (fs := fs) e1 e2)
          have b1 : (j == dF fl k) = false := by simp [e1]
          have b2 : (j == dT fl k) = false := by simp [e2]
          clear e1 e2
          go_wp2
          go_roundg (fs.length - (k + 1))
          case measure => rw [HGK.out]; omega
          case rel => exact ⟨k + 1, by omega, rfl, by go_num, ret_v (by rw [HR.out]), by repeat (first | exact Below.refl _ _ | assumption | apply bl_alloc | apply bl_drewN | apply Below.drew | (refine bl_set ?_ (by first | exact Nat.le_refl _ | (simp; done) | (simp; omega)) _) | (refine bl_trans ?_ (by assumption)))⟩
    · obtain rfl : k = fs.length := by omega
      go_wp2
      go_ret
      exact ⟨rfl, hb⟩
theorem implInner (w : World) (J s : Int) (A : Option Addr) (n k0 : Nat) (hJ : 2 ≤ J ∧ J ≤ 10) :
    Calls Try.prog 60 #[.agg #[.int .i64 J, .slice A n k0], .int .i64 s] w fun e w' => e = .returned (.bool (inR s 1 (J - 1))) ∧ Below w.heap.size w w' := by
  have j1 := hJ.1
  have j2 := hJ.2
  go_enter Try.func60, Try.ntmps60
  go_wp2_with ((go_at_call 42; refine (in_any _ _ _ _).mono ?_; rintro e w' ⟨rfl, rfl⟩))
  go_ret
  exact ⟨rfl, by repeat (first | exact Below.refl _ _ | assumption | apply bl_alloc | apply bl_drewN | apply Below.drew | (refine bl_set ?_ (by first | exact Nat.le_refl _ | (simp; done) | (simp; omega)) _) | (refine bl_trans ?_ (by assumption)))⟩
theorem ret_v' {a b : Int} (h : a = b) : Value.int .i64 a = Value.int .i64 b := by rw [h]

set_option maxRecDepth 100000 in
set_option maxHeartbeats 3200000 in
theorem implLeads (w : World) (J s : Int) (A F : Option Addr) (k0 c : Nat) (fl fs : List Int) (hA : RC w A (ints fl)) (lf : fl.length = fs.length * 3) (hF : RC w F (ints fs)) (hJ : 2 ≤ J ∧ J ≤ 10) (hn : fs.length ≤ 20) (hd : ∀ i, i < fs.length → (0 ≤ dF fl i ∧ dF fl i ≤ J - 1) ∧ (0 ≤ dT fl i ∧ dT fl i ≤ J - 1) ∧ dF fl i ≠ dT fl i ∧ (0 ≤ dW fl i ∧ dW fl i ≤ 1000)) :
    Calls Try.prog 61 #[.agg #[.int .i64 J, .slice A fs.length k0], .int .i64 s, .slice F fs.length c] w fun e w' => e = .returned (.bool (ldB J fs.length fl fs s)) ∧ Below w.heap.size w w' := by
  have HA := Lib.hid hA
  have HL := Lib.hid lf
  have HF := Lib.hid hF
  clear hA lf hF
  have HD := Lib.hid hd
  have j1 := hJ.1
  have j2 := hJ.2
  clear hd hJ
  go_enter Try.func61, Try.ntmps61
  go_wp2
  go_loopg [14] fs.length (fun m i wr => ∃ k, k ≤ fs.length ∧ m = fs.length - k ∧ i = .int .i64 (k : Int) ∧ Hid (allN (flIn fl fs) k = true) ∧ wr.heap[w.heap.size]? = some (.cells #[.int .i64 J, .slice A fs.length k0] 29 (0, 0)) ∧ Below w.heap.size w wr)
  case atStart => exact ⟨0, Nat.zero_le _, by omega, rfl, Lib.hid rfl, heap_alloc_new _ _, by repeat (first | exact Below.refl _ _ | assumption | apply bl_alloc | apply bl_drewN | apply Below.drew | (refine bl_set ?_ (by first | exact Nat.le_refl _ | (simp; done) | (simp; omega)) _) | (refine bl_trans ?_ (by assumption)))⟩
  case round =>
    obtain ⟨k, hk, hgk, rfl, HT, kx, hb⟩ := hrel
    have HGK := Lib.hid hgk
    clear hgk
    by_cases hlt : k < fs.length
    · have bw := HD.out k hlt
      obtain ⟨b, off, rfl, hbl, hcell⟩ := HA.out (by rw [ints_len, HL.out]; omega)
      obtain ⟨q0, q1, q2⟩ := dit_cells hbl hcell HL.out hlt hb
      obtain ⟨b', off', rfl, hbl', hcell'⟩ := HF.out (by rw [ints_len]; omega)
      have h1 := (hb.cell (p := ⟨b', off' + k, none⟩) hbl').trans (hcell' k (by rw [ints_len]; exact hlt))
      rw [ints_get fs k hlt] at h1
      clear hcell hcell'
      obtain ⟨W, hW⟩ : ∃ W, W = wr.alloc (.cells #[.int .i64 (dF fl k), .int .i64 (dT fl k), .int .i64 (dW fl k)] 38) := ⟨_, rfl⟩
      have h1' : W.cell? ⟨b', off' + k, none⟩ = some (.int .i64 (gt fs k)) := by rw [hW]; exact kc_alloc h1
      have kn : W.heap[wr.heap.size]? = some (.cells #[.int .i64 (dF fl k), .int .i64 (dT fl k), .int .i64 (dW fl k)] 38 (0, 0)) := by rw [hW]; exact heap_alloc_new _ _
      obtain ⟨n0, n1, n2, nl⟩ := row_three kn
      have hbW : Below w.heap.size w W := by rw [hW]; repeat (first | exact Below.refl _ _ | assumption | apply bl_alloc | apply bl_drewN | apply Below.drew | (refine bl_set ?_ (by first | exact Nat.le_refl _ | (simp; done) | (simp; omega)) _) | (refine bl_trans ?_ (by assumption)))
      have kx' : W.heap[w.heap.size]? = some (.cells #[.int .i64 J, .slice (some ⟨b, off, none⟩) fs.length k0] 29 (0, 0)) := by rw [hW]; exact blk_old kx
      clear kn
      cases hq : flIn fl fs k
      · have hq' : inR (gt fs k) 0 (dW fl k) = false := hq
        have HN := Lib.hid (ld_1 (J := J) (s := s) (allN_no hlt hq))
        go_wp2
        rw [← hW]
        clear hW
        go_quiet (((go_at_call 42; first | with_reducible exact quiet_eq (in_any _ _ _ _) | with_reducible exact quiet_add_eq (in_any _ _ _ _))))
        go_wp2
        go_ret
        exact ⟨ret_bool HN.out.symm, by repeat (first | exact Below.refl _ _ | assumption | apply bl_alloc | apply bl_drewN | apply Below.drew | (refine bl_set ?_ (by first | exact Nat.le_refl _ | (simp; done) | (simp; omega)) _) | (refine bl_trans ?_ (by assumption)))⟩
      · have hq' : inR (gt fs k) 0 (dW fl k) = true := hq
        have HY := Lib.hid (allN_yes HT.out hq)
        go_wp2
        rw [← hW]
        clear hW
        go_quiet (((go_at_call 42; first | with_reducible exact quiet_eq (in_any _ _ _ _) | with_reducible exact quiet_add_eq (in_any _ _ _ _))))
        go_wp2
        go_roundg (fs.length - (k + 1))
        case measure => rw [HGK.out]; omega
        case rel => exact ⟨k + 1, by omega, rfl, by go_num, HY, kx', by repeat (first | exact Below.refl _ _ | assumption | apply bl_alloc | apply bl_drewN | apply Below.drew | (refine bl_set ?_ (by first | exact Nat.le_refl _ | (simp; done) | (simp; omega)) _) | (refine bl_trans ?_ (by assumption)))⟩
    · obtain rfl : k = fs.length := by omega
      have FB := Lib.hid (flIn_bd HT.out fun i hi => (HD.out i hi).2.2.2)
      have LD := Lib.hid (ld_2 (J := J) (s := s) HT.out)
      have HB := Lib.hid hb
      obtain ⟨x0, x1, xl⟩ := row_two kx
      go_wp2
      clear HT
      go_loopg [9] (J - 1).toNat (fun m i wi => ∃ k, k ≤ (J - 1).toNat ∧ m = (J - 1).toNat - k ∧ i = .int .i64 (1 + (k : Int)) ∧ Hid (allN (goodAt fl fs s fs.length) k = true) ∧ wi.heap[w.heap.size]? = some (.cells #[.int .i64 J, .slice A fs.length k0] 29 (0, 0)) ∧ Below w.heap.size w wi)
      case atStart => exact ⟨0, Nat.zero_le _, by omega, rfl, Lib.hid rfl, kx, hb⟩
      case round =>
        clear hb kx x0 x1 xl HB
        obtain ⟨k, hk, hgk, rfl, HT, kx, hb⟩ := hrel
        obtain ⟨x0, x1, xl⟩ := row_two kx
        have HGK := Lib.hid hgk
        clear hgk
        by_cases hlt : k < (J - 1).toNat
        · have bd := outTo_bd (fl := fl) FB.out (1 + (k : Int)) fs.length (Nat.le_refl _)
          by_cases e1 : outTo fl fs (1 + (k : Int)) fs.length < 0
          · have HN := Lib.hid (allN_no (q := goodAt fl fs s fs.length) hlt (good_1 e1))
            go_wp2_with (go_at_call 67; refine (implOut _ _ _ _ _ _ _ _ _ (HA.out.below (by repeat (first | exact Below.refl _ _ | assumption | apply bl_alloc | apply bl_drewN | apply Below.drew | (refine bl_set ?_ (by first | exact Nat.le_refl _ | (simp; done) | (simp; omega)) _) | (refine bl_trans ?_ (by assumption))))) HL.out (HF.out.below (by repeat (first | exact Below.refl _ _ | assumption | apply bl_alloc | apply bl_drewN | apply Below.drew | (refine bl_set ?_ (by first | exact Nat.le_refl _ | (simp; done) | (simp; omega)) _) | (refine bl_trans ?_ (by assumption))))) hn FB.out).mono ?_; rintro e w1 ⟨rfl, hb1⟩; have kx1 : w1.heap[w.heap.size]? = some (.cells #[.int .i64 J, .slice A fs.length k0] 29 (0, 0)) := keep_blk (hb := hb1) (h := by first | exact kx | (repeat (first | (refine blk_new ?_; (first | rfl | (simp; done) | (simp; omega))) | refine blk_drewN ?_ | refine blk_old ?_); exact kx)); obtain ⟨y0, y1, yl⟩ := row_two kx1)
            go_ret
            exact ⟨ret_bool (by rw [LD.out, HN.out]), by repeat (first | exact Below.refl _ _ | assumption | apply bl_alloc | apply bl_drewN | apply Below.drew | (refine bl_set ?_ (by first | exact Nat.le_refl _ | (simp; done) | (simp; omega)) _) | (refine bl_trans ?_ (by assumption)))⟩
          · by_cases e2 : 0 < outTo fl fs (1 + (k : Int)) fs.length
            · by_cases e3 : 1 + (k : Int) = s
              · have HY := Lib.hid (allN_yes HT.out (good_4 e1 e3))
                have b3 : (1 + (k : Int) != s) = false := bneI_no e3
                clear e3
                go_wp2_with (go_at_call 67; refine (implOut _ _ _ _ _ _ _ _ _ (HA.out.below (by repeat (first | exact Below.refl _ _ | assumption | apply bl_alloc | apply bl_drewN | apply Below.drew | (refine bl_set ?_ (by first | exact Nat.le_refl _ | (simp; done) | (simp; omega)) _) | (refine bl_trans ?_ (by assumption))))) HL.out (HF.out.below (by repeat (first | exact Below.refl _ _ | assumption | apply bl_alloc | apply bl_drewN | apply Below.drew | (refine bl_set ?_ (by first | exact Nat.le_refl _ | (simp; done) | (simp; omega)) _) | (refine bl_trans ?_ (by assumption))))) hn FB.out).mono ?_; rintro e w1 ⟨rfl, hb1⟩; have kx1 : w1.heap[w.heap.size]? = some (.cells #[.int .i64 J, .slice A fs.length k0] 29 (0, 0)) := keep_blk (hb := hb1) (h := by first | exact kx | (repeat (first | (refine blk_new ?_; (first | rfl | (simp; done) | (simp; omega))) | refine blk_drewN ?_ | refine blk_old ?_); exact kx)); obtain ⟨y0, y1, yl⟩ := row_two kx1)
                go_roundg ((J - 1).toNat - (k + 1))
                case measure => rw [HGK.out]; omega
                case rel => exact ⟨k + 1, by omega, rfl, ret_v' (by push_cast; omega), HY, kx1, by repeat (first | exact Below.refl _ _ | assumption | apply bl_alloc | apply bl_drewN | apply Below.drew | (refine bl_set ?_ (by first | exact Nat.le_refl _ | (simp; done) | (simp; omega)) _) | (refine bl_trans ?_ (by assumption)))⟩
              · have b3 : (1 + (k : Int) != s) = true := bneI_yes e3
                have HN := Lib.hid (allN_no (q := goodAt fl fs s fs.length) hlt (good_2 e2 e3))
                clear e3
                go_wp2_with (go_at_call 67; refine (implOut _ _ _ _ _ _ _ _ _ (HA.out.below (by repeat (first | exact Below.refl _ _ | assumption | apply bl_alloc | apply bl_drewN | apply Below.drew | (refine bl_set ?_ (by first | exact Nat.le_refl _ | (simp; done) | (simp; omega)) _) | (refine bl_trans ?_ (by assumption))))) HL.out (HF.out.below (by repeat (first | exact Below.refl _ _ | assumption | apply bl_alloc | apply bl_drewN | apply Below.drew | (refine bl_set ?_ (by first | exact Nat.le_refl _ | (simp; done) | (simp; omega)) _) | (refine bl_trans ?_ (by assumption))))) hn FB.out).mono ?_; rintro e w1 ⟨rfl, hb1⟩; have kx1 : w1.heap[w.heap.size]? = some (.cells #[.int .i64 J, .slice A fs.length k0] 29 (0, 0)) := keep_blk (hb := hb1) (h := by first | exact kx | (repeat (first | (refine blk_new ?_; (first | rfl | (simp; done) | (simp; omega))) | refine blk_drewN ?_ | refine blk_old ?_); exact kx)); obtain ⟨y0, y1, yl⟩ := row_two kx1)
                go_ret
                exact ⟨ret_bool (by rw [LD.out, HN.out]), by repeat (first | exact Below.refl _ _ | assumption | apply bl_alloc | apply bl_drewN | apply Below.drew | (refine bl_set ?_ (by first | exact Nat.le_refl _ | (simp; done) | (simp; omega)) _) | (refine bl_trans ?_ (by assumption)))⟩
            · have HY := Lib.hid (allN_yes HT.out (good_3 (s := s) e1 e2))
              go_wp2_with (go_at_call 67; refine (implOut _ _ _ _ _ _ _ _ _ (HA.out.below (by repeat (first | exact Below.refl _ _ | assumption | apply bl_alloc | apply bl_drewN | apply Below.drew | (refine bl_set ?_ (by first | exact Nat.le_refl _ | (simp; done) | (simp; omega)) _) | (refine bl_trans ?_ (by assumption))))) HL.out (HF.out.below (by repeat (first | exact Below.refl _ _ | assumption | apply bl_alloc | apply bl_drewN | apply Below.drew | (refine bl_set ?_ (by first | exact Nat.le_refl _ | (simp; done) | (simp; omega)) _) | (refine bl_trans ?_ (by assumption))))) hn FB.out).mono ?_; rintro e w1 ⟨rfl, hb1⟩; have kx1 : w1.heap[w.heap.size]? = some (.cells #[.int .i64 J, .slice A fs.length k0] 29 (0, 0)) := keep_blk (hb := hb1) (h := by first | exact kx | (repeat (first | (refine blk_new ?_; (first | rfl | (simp; done) | (simp; omega))) | refine blk_drewN ?_ | refine blk_old ?_); exact kx)); obtain ⟨y0, y1, yl⟩ := row_two kx1)
              go_roundg ((J - 1).toNat - (k + 1))
              case measure => rw [HGK.out]; omega
              case rel => exact ⟨k + 1, by omega, rfl, ret_v' (by push_cast; omega), HY, kx1, by repeat (first | exact Below.refl _ _ | assumption | apply bl_alloc | apply bl_drewN | apply Below.drew | (refine bl_set ?_ (by first | exact Nat.le_refl _ | (simp; done) | (simp; omega)) _) | (refine bl_trans ?_ (by assumption)))⟩
        · obtain rfl : k = (J - 1).toNat := by omega
          go_wp2
          go_ret
          exact ⟨ret_bool (by rw [LD.out, HT.out]), hb⟩
end Go.Proofs.Ythgdiddgooippaa
