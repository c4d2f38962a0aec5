/-
  Contract on the text of a land: the reference's. It holds for every land of at most 1048576 heights.
-/
import Derived.Test.YtfkleaagpflpkaaDoorLtImpl
import Derived.Test.YtfkleaagpflpkaaDoorDec
import Derived.Test.YtfkleaagpflpkaaDoorTail
import Derived.BigQuiet
import Derived.IntWalk
namespace Go.Proofs.YtfkleaagpflpkaaDoor
set_option linter.unusedVariables false
open Go.RowKit
theorem ix_bd {R C q j n : Nat} (hn : n = R * C) (hq : q < R) (hj : j < C) : q * C + j < n := by
  have := row_in hn hq
  omega
theorem ix_wrap {q C j o x : Nat} (ho : o = q * C) (hx : x = q * C + j) (hb : x ≤ 1000000) : IntKind.i64.wrap ((q : Int) * (C : Int)) = (o : Int) ∧ IntKind.i64.wrap ((o : Int) + (j : Int)) = (x : Int) := by
  have e1 : (q : Int) * (C : Int) = (o : Int) := by rw [ho]; push_cast; rfl
  have e2 : (o : Int) + (j : Int) = (x : Int) := by omega
  rw [e1, e2]
  exact ⟨IntWalk.i64_in _ (by omega), IntWalk.i64_in _ (by omega)⟩
theorem own_cat {w : World} {B T n : Nat} {v : Value} {l m : List UInt8} (h : w.ownsRow B T 1 v n (Lib.byteCells l ++ Lib.strCells ⟨m.toArray⟩)) (hn : n = (l ++ m).length) : w.ownsRow B T 1 v (l ++ m).length (Lib.byteCells (l ++ m)) := by
  subst hn
  rw [Lib.byteCells_append]
  exact h
set_option maxRecDepth 100000 in
set_option maxHeartbeats 6400000 in
theorem l03Text_any (w : World) (p : Nat) (R C : Nat) (A : Option Addr) (k : Nat) (hs : List Int) (hp0 : w.cell? ⟨p, 0, none⟩ = some (.int .i64 (R : Int))) (hp1 : w.cell? ⟨p, 1, none⟩ = some (.int .i64 (C : Int))) (hp2 : w.cell? ⟨p, 2, none⟩ = some (.slice A hs.length k)) (hpl : p < w.heap.size) (hA : RC w A (ints hs)) (k0 : landOk (R : Int) (C : Int) hs = true) :
    Calls Tryd.prog 58 #[.pointer (some ⟨p, 0, none⟩)] w fun e w' => e = .returned (.string ⟨(ltTo hs C R).toArray⟩) ∧ Below w.heap.size w w' := by
  have L0 := Lib.hid (landOk_of k0)
  have hRC : hs.length = R * C := by have := L0.out.2.2.1; exact_mod_cast this
  have hC1 : 1 ≤ C := by have := L0.out.2.1.1; omega
  have hC2 : C ≤ 12 := by have := L0.out.2.1.2; omega
  have hR1 : 1 ≤ R := by have := L0.out.1.1; omega
  have hR2 : R ≤ 12 := by have := L0.out.1.2; omega
  have HRC := Lib.hid hRC
  obtain ⟨b, off, rfl, hbl, hcell⟩ := hA (by rw [ints_len]; have := L0.out.2.2.2.1; omega)
  have HCE := Lib.hid hcell
  have HP := Lib.hid (And.intro hp0 (And.intro hp1 hp2))
  have h144 := L0.out.2.2.2.2.1
  clear hcell hRC k0 hp0 hp1 hp2 hA
  obtain ⟨i0, hi, hz0, hz1, hz2⟩ := info_parts infoByte
  go_enter Tryd.func58, Tryd.ntmps58
  go_wp2
  go_loopg [3, 4] R (fun m v i wr => ∃ q, q ≤ R ∧ m = R - q ∧ i = .int .i64 ((q : Nat) : Int) ∧ wr.ownsRow w.heap.size 5 1 v (ltTo hs C q).length (Lib.byteCells (ltTo hs C q)) ∧ v ≠ .slice none 0 0 ∧ Below w.heap.size w wr)
  case atStart => exact ⟨0, Nat.zero_le _, rfl, rfl, own_lit _ (Below.refl _ _), by simp, bl_alloc (Below.refl _ _) _⟩
  case round =>
    obtain ⟨q, hq, hgk, rfl, hown, hvn, hb⟩ := hrel
    have HGK := Lib.hid hgk
    clear hgk
    have z0 : wr.cell? ⟨p, 0, none⟩ = some (.int .i64 (R : Int)) := (hb.cell (p := ⟨p, 0, none⟩) hpl).trans HP.out.1
    by_cases hlt : q < R
    · have HO := Lib.hid hown
      have HVN := Lib.hid hvn
      have HB := Lib.hid hb
      clear hown hvn hb
      go_wp2
      go_loopg [3, 5] C (fun m v i wr => ∃ j, j ≤ C ∧ m = C - j ∧ i = .int .i64 ((j : Nat) : Int) ∧ wr.ownsRow w.heap.size 5 1 v (ltTo hs C q ++ rwTo hs (q * C) j).length (Lib.byteCells (ltTo hs C q ++ rwTo hs (q * C) j)) ∧ v ≠ .slice none 0 0 ∧ Below w.heap.size w wr)
      case atStart => exact ⟨0, Nat.zero_le _, rfl, rfl, by simpa [rwTo] using HO.out, HVN.out, HB.out⟩
      case round =>
        clear HO HVN HB z0
        obtain ⟨j, hj, hgk, rfl, hown, hvn, hb⟩ := hrel
        have HGJ := Lib.hid hgk
        clear hgk
        have z1 : wr.cell? ⟨p, 1, none⟩ = some (.int .i64 (C : Int)) := (hb.cell (p := ⟨p, 1, none⟩) hpl).trans HP.out.2.1
        have hll : (ltTo hs C q ++ rwTo hs (q * C) j).length ≤ 300000000 := by
          have t1 := lt_len L0.out.2.2.2.2.2 HRC.out (by omega) q (by omega)
          have t2 := rw_len L0.out.2.2.2.2.2 (o := q * C) j (by have := row_in HRC.out hlt; omega)
          rw [List.length_append]
          omega
        by_cases hjl : j < C
        · obtain ⟨o, ho⟩ : ∃ o, o = q * C := ⟨_, rfl⟩
          obtain ⟨x, hx⟩ : ∃ x, x = q * C + j := ⟨_, rfl⟩
          have hix : x < hs.length := by rw [hx]; exact ix_bd HRC.out hlt hjl
          have hbd := L0.out.2.2.2.2.2 x hix
          have HIT := Lib.hid (it_len (n := gt hs x) (by omega) (by omega))
          have HIB := Lib.hid (show -9223372036854775808 ≤ gt hs x ∧ gt hs x ≤ 9223372036854775807 by omega)
          have WR := Lib.hid (ix_wrap ho hx (by omega))
          have HX := Lib.hid hx
          clear ho hx
          by_cases h0 : 0 < j
          · have HS := Lib.hid (rw_next (hs := hs) (o := q * C) h0)
            go_wp2_with (at_builtin; refine wpList_append_own _ rfl _ _ 85 rfl w.heap.size 5 i0 (.int .u8 0) 1 1 Tryd.underlying85 hi hz0 hz1 hz2 rfl (by decide) _ _ _ rfl (hown.alloc _) ⟨wr.heap.size, 0, none⟩ 1 1 [.int .u8 32] rfl rfl (app_news (heap_alloc_new wr _)) (byte_one [32]) (by unfold maxLen; omega) (by omega) (by have := hb.size; simp; omega) ?_; intro v' w1 hown' hgrow hne)
            have own1 : w1.ownsRow w.heap.size 5 1 v' (ltTo hs C q ++ rwTo hs (q * C) j ++ [32]).length (Lib.byteCells (ltTo hs C q ++ rwTo hs (q * C) j ++ [32])) := own_cat (m := [32]) hown' (List.length_append (bs := [32])).symm
            have hl1 : (ltTo hs C q ++ rwTo hs (q * C) j ++ [32]).length ≤ 300000001 := by
              rw [List.length_append (bs := [32])]
              exact Nat.add_le_add_right hll 1
            have b1 := app_below (bl_alloc hb _) (hown.alloc _) hgrow
            have nv1 : v' ≠ .slice none 0 0 := fun h => hvn (hne.1 h).1
            clear hown' hgrow hne hown hb hvn z1
            have c0 : w1.cell? ⟨p, 0, none⟩ = some (.int .i64 (R : Int)) := (b1.cell (p := ⟨p, 0, none⟩) hpl).trans HP.out.1
            have c1 : w1.cell? ⟨p, 1, none⟩ = some (.int .i64 (C : Int)) := (b1.cell (p := ⟨p, 1, none⟩) hpl).trans HP.out.2.1
            have c2 : w1.cell? ⟨p, 2, none⟩ = some (.slice (some ⟨b, off, none⟩) hs.length k) := (b1.cell (p := ⟨p, 2, none⟩) hpl).trans HP.out.2.2
            have f1 : w1.cell? ⟨b, off + x, none⟩ = some (.int .i64 (gt hs x)) := by
              rw [b1.cell (p := ⟨b, off + x, none⟩) hbl, HCE.out _ (by rw [ints_len]; exact hix), ints_get _ _ hix]
            have q1 : ∀ y : WB w1, y.W.cell? ⟨p, 1, none⟩ = some (.int .i64 (C : Int)) := fun y => y.cell c1
            have q2 : ∀ y : WB w1, y.W.cell? ⟨p, 2, none⟩ = some (.slice (some ⟨b, off, none⟩) hs.length k) := fun y => y.cell c2
            have q3 : ∀ y : WB w1, y.W.cell? ⟨b, off + x, none⟩ = some (.int .i64 (gt hs x)) := fun y => y.cell f1
            have hq0 := fun y : WB w1 => l01Dec_any y.W (gt hs x) HIB.out.1 HIB.out.2
            have W1 : IntKind.i64.wrap ((q : Int) * (C : Int)) = (o : Int) := WR.out.1
            have W2 : IntKind.i64.wrap ((o : Int) + (j : Int)) = (x : Int) := WR.out.2
            clear c0 c1 c2 f1
            refine region_quiet_tail (C := InWB w1) 16 (by kernel_rfl) (by kernel_rfl) (inWB_drew _) ?_
            simp only [List.take_succ_cons, List.take_zero, List.drop_succ_cons, List.drop_zero]
            unfold InWB
            repeat go_big_quiet_step ((go_at_call 36; with_reducible exact wb_below (hq0 _)))
            refine wpQuiet_nil ?_
            rintro w3 ⟨y3, rfl⟩
            clear W1 W2 q1 q2 q3 hq0
            have hb3 := y3.hb
            go_wp2_with (at_builtin; refine Lib.wpList_append_own_string _ rfl _ _ 85 9 rfl w.heap.size 5 i0 Tryd.underlying85 Tryd.underlying9 hi hz0 hz1 hz2 _ _ _ rfl (own_beJ (own1) hb3) ⟨(Lib.itoa (gt hs x)).toArray⟩ rfl (by have := HIT.out; rw [Lib.size_eq]; unfold maxLen; simp only; omega) (by have := HIT.out; rw [Lib.size_eq]; simp only; omega) (by have := (bl_trans b1 hb3).size; omega) ?_; intro v2 w4 hown4 hgrow4 hne4)
            have R1 : w4.ownsRow w.heap.size 5 1 v2 (ltTo hs C q ++ rwTo hs (q * C) (j + 1)).length (Lib.byteCells (ltTo hs C q ++ rwTo hs (q * C) (j + 1))) := by
              rw [HS.out, ← HX.out, ← List.append_assoc, ← List.append_assoc]
              exact own_cat hown4 (List.length_append (bs := Lib.itoa (gt hs x))).symm
            have R2 : v2 ≠ .slice none 0 0 := fun h => nv1 (hne4.1 h).1
            have R3 := app_below (bl_trans b1 hb3) (own_beJ own1 hb3) hgrow4
            go_roundg (C - (j + 1))
            case measure => rw [HGJ.out]; omega
            case rel => exact ⟨j + 1, by omega, rfl, by go_num, R1, R2, R3⟩
          · have HS := Lib.hid (rw_first (hs := hs) (o := q * C) h0)
            go_wp2
            have c0 : wr.cell? ⟨p, 0, none⟩ = some (.int .i64 (R : Int)) := (hb.cell (p := ⟨p, 0, none⟩) hpl).trans HP.out.1
            have c1 : wr.cell? ⟨p, 1, none⟩ = some (.int .i64 (C : Int)) := (hb.cell (p := ⟨p, 1, none⟩) hpl).trans HP.out.2.1
            have c2 : wr.cell? ⟨p, 2, none⟩ = some (.slice (some ⟨b, off, none⟩) hs.length k) := (hb.cell (p := ⟨p, 2, none⟩) hpl).trans HP.out.2.2
            have f1 : wr.cell? ⟨b, off + x, none⟩ = some (.int .i64 (gt hs x)) := by
              rw [hb.cell (p := ⟨b, off + x, none⟩) hbl, HCE.out _ (by rw [ints_len]; exact hix), ints_get _ _ hix]
            have q1 : ∀ y : WB wr, y.W.cell? ⟨p, 1, none⟩ = some (.int .i64 (C : Int)) := fun y => y.cell c1
            have q2 : ∀ y : WB wr, y.W.cell? ⟨p, 2, none⟩ = some (.slice (some ⟨b, off, none⟩) hs.length k) := fun y => y.cell c2
            have q3 : ∀ y : WB wr, y.W.cell? ⟨b, off + x, none⟩ = some (.int .i64 (gt hs x)) := fun y => y.cell f1
            have hq0 := fun y : WB wr => l01Dec_any y.W (gt hs x) HIB.out.1 HIB.out.2
            have W1 : IntKind.i64.wrap ((q : Int) * (C : Int)) = (o : Int) := WR.out.1
            have W2 : IntKind.i64.wrap ((o : Int) + (j : Int)) = (x : Int) := WR.out.2
            clear c0 c1 c2 f1
            refine region_quiet_tail (C := InWB wr) 16 (by kernel_rfl) (by kernel_rfl) (inWB_drew _) ?_
            simp only [List.take_succ_cons, List.take_zero, List.drop_succ_cons, List.drop_zero]
            unfold InWB
            repeat go_big_quiet_step ((go_at_call 36; with_reducible exact wb_below (hq0 _)))
            refine wpQuiet_nil ?_
            rintro w3 ⟨y3, rfl⟩
            clear W1 W2 q1 q2 q3 hq0
            have hb3 := y3.hb
            go_wp2_with (at_builtin; refine Lib.wpList_append_own_string _ rfl _ _ 85 9 rfl w.heap.size 5 i0 Tryd.underlying85 Tryd.underlying9 hi hz0 hz1 hz2 _ _ _ rfl (own_beJ (hown) hb3) ⟨(Lib.itoa (gt hs x)).toArray⟩ rfl (by have := HIT.out; rw [Lib.size_eq]; unfold maxLen; simp only; omega) (by have := HIT.out; rw [Lib.size_eq]; simp only; omega) (by have := (bl_trans hb hb3).size; omega) ?_; intro v2 w4 hown4 hgrow4 hne4)
            have R1 : w4.ownsRow w.heap.size 5 1 v2 (ltTo hs C q ++ rwTo hs (q * C) (j + 1)).length (Lib.byteCells (ltTo hs C q ++ rwTo hs (q * C) (j + 1))) := by
              rw [HS.out, ← HX.out, ← List.append_assoc]
              exact own_cat hown4 (List.length_append (bs := Lib.itoa (gt hs x))).symm
            have R2 : v2 ≠ .slice none 0 0 := fun h => hvn (hne4.1 h).1
            have R3 := app_below (bl_trans hb hb3) (own_beJ hown hb3) hgrow4
            go_roundg (C - (j + 1))
            case measure => rw [HGJ.out]; omega
            case rel => exact ⟨j + 1, by omega, rfl, by go_num, R1, R2, R3⟩
        · obtain rfl : j = C := by omega
          go_wp2_with (at_builtin; refine wpList_append_own _ rfl _ _ 85 rfl w.heap.size 5 i0 (.int .u8 0) 1 1 Tryd.underlying85 hi hz0 hz1 hz2 rfl (by decide) _ _ _ rfl (hown.alloc _) ⟨wr.heap.size, 0, none⟩ 1 1 [.int .u8 10] rfl rfl (app_news (heap_alloc_new wr _)) (byte_one [10]) (by unfold maxLen; omega) (by omega) (by have := hb.size; simp; omega) ?_; intro v' w1 hown' hgrow hne)
          have R1 : w1.ownsRow w.heap.size 5 1 v' (ltTo hs j (q + 1)).length (Lib.byteCells (ltTo hs j (q + 1))) := by
            rw [lt_next]
            exact own_cat (m := [10]) hown' (List.length_append (bs := [10])).symm
          have R2 : v' ≠ .slice none 0 0 := fun h => hvn (hne.1 h).1
          have R3 := app_below (bl_alloc hb _) (hown.alloc _) hgrow
          go_roundg (R - (q + 1))
          case measure => rw [HGK.out]; omega
          case rel => exact ⟨q + 1, by omega, rfl, by go_num, R1, R2, R3⟩
    · obtain rfl : q = R := by omega
      obtain ⟨g, c, rfl⟩ := own_form hown hvn
      have hcv := run_convert_bytes_back (P := Tryd.prog) wr 85 9 5 ⟨g, 0, none⟩ c (ltTo hs C q) Tryd.underlying85 Tryd.underlying5 Tryd.underlying9 (fun j hj => hown.cells (g := g) rfl j _ (by simp [Lib.byteCells, hj]))
      go_wp2
      go_ret
      exact ⟨rfl, hb⟩
set_option maxRecDepth 100000 in
set_option maxHeartbeats 1600000 in
theorem specLandText (w : World) (r c : Int) (A : Option Addr) (k : Nat) (hs : List Int) (hA : RC w A (ints hs)) (hm : hs.length ≤ 1048576) :
    Calls Tryd.prog 30 #[.agg #[.int .i64 r, .int .i64 c, .slice A hs.length k]] w fun e w' => e = .returned (.string ⟨(ltText r c hs).toArray⟩) ∧ Below w.heap.size w w' := by
  have HA := Lib.hid hA
  clear hA
  cases k0 : landOk r c hs
  · have H := Lib.hid (ltt_no k0)
    go_enter Tryd.func30, Tryd.ntmps30
    go_wp2_with ((go_at_call 57; refine (l03Ok_any _ w.heap.size r c A k hs (by simp [go_sem]) (by simp [go_sem]) (by simp [go_sem]) (HA.out.below (by repeat (first | exact Below.refl _ _ | assumption | apply bl_alloc | apply bl_drewN | apply Below.drew | (refine bl_set ?_ (by first | exact Nat.le_refl _ | (simp; done) | (simp; omega)) _) | (refine bl_trans ?_ (by assumption))))) hm).mono ?_; rintro e w1 ⟨rfl, d1, rfl⟩))
    go_ret
    exact ⟨by rw [H.out]; rfl, by repeat (first | exact Below.refl _ _ | assumption | apply bl_alloc | apply bl_drewN | apply Below.drew | (refine bl_set ?_ (by first | exact Nat.le_refl _ | (simp; done) | (simp; omega)) _) | (refine bl_trans ?_ (by assumption)))⟩
  · have H := Lib.hid (ltt_yes k0)
    have L0 := Lib.hid (landOk_of k0)
    obtain ⟨R, hR⟩ : ∃ R : Nat, r = (R : Int) := ⟨r.toNat, by have := L0.out.1.1; omega⟩
    obtain ⟨C, hC⟩ : ∃ C : Nat, c = (C : Int) := ⟨c.toNat, by have := L0.out.2.1.1; omega⟩
    subst hR hC
    have K0 := Lib.hid k0
    go_enter Tryd.func30, Tryd.ntmps30
    go_wp2_with (first | (go_at_call 57; refine (l03Ok_any _ w.heap.size (R : Int) (C : Int) A k hs (by simp [go_sem]) (by simp [go_sem]) (by simp [go_sem]) (HA.out.below (by repeat (first | exact Below.refl _ _ | assumption | apply bl_alloc | apply bl_drewN | apply Below.drew | (refine bl_set ?_ (by first | exact Nat.le_refl _ | (simp; done) | (simp; omega)) _) | (refine bl_trans ?_ (by assumption))))) hm).mono ?_; rintro e w1 ⟨rfl, d1, rfl⟩) | (go_at_call 58; refine (l03Text_any _ w.heap.size R C A k hs (by simp [go_sem]) (by simp [go_sem]) (by simp [go_sem]) (by simp) (HA.out.below (by repeat (first | exact Below.refl _ _ | assumption | apply bl_alloc | apply bl_drewN | apply Below.drew | (refine bl_set ?_ (by first | exact Nat.le_refl _ | (simp; done) | (simp; omega)) _) | (refine bl_trans ?_ (by assumption))))) K0.out).mono ?_; rintro e w2 ⟨rfl, hb2⟩))
    go_ret
    exact ⟨by rw [H.out]; rfl, by repeat (first | exact Below.refl _ _ | assumption | apply bl_alloc | apply bl_drewN | apply Below.drew | (refine bl_set ?_ (by first | exact Nat.le_refl _ | (simp; done) | (simp; omega)) _) | (refine bl_trans ?_ (by assumption)))⟩
end Go.Proofs.YtfkleaagpflpkaaDoor
