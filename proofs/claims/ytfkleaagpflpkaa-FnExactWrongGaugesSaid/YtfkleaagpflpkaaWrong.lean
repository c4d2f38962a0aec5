/-
  Contracts of the numbers that lie far from the middle one: the program's function with its closure, and the reference's. They hold for every list of at most 1048576 numbers.
-/
import Derived.Test.YtfkleaagpflpkaaMid
import Derived.Test.YtfkleaagpflpkaaWrongPlain
import Derived.IntWalk
namespace Go.Proofs.Ytfkleaagpflpkaa
set_option linter.unusedVariables false
open Go.RowKit
theorem own_bel {w W : World} {B T n sz : Nat} {v : Value} {xs : List Value} (h : w.ownsRow B T sz v n xs) (hb : Below w.heap.size w W) : W.ownsRow B T sz v n xs := by
  refine ⟨h.1, ?_⟩
  rcases h.2 with hn | ⟨g, cap, cur, rfl, hB, hg, rest⟩
  · exact .inl hn
  · exact .inr ⟨g, cap, cur, rfl, hB, (hb.block g (Array.getElem?_eq_some_iff.1 hg).1).trans hg, rest⟩

set_option maxHeartbeats 1600000 in
theorem wrong1_any (i p q : Nat) (W : World) (A : Option Addr) (c : Nat) (zs : List Int) (y : Int) (hp : W.cell? ⟨p, 0, none⟩ = some (.slice A zs.length c)) (hq : W.cell? ⟨q, 0, none⟩ = some (.int .i64 y)) (hpl : p < W.heap.size) (hql : q < W.heap.size)
    (hA : RC W A (ints zs)) (hi : i < zs.length) (hm : zs.length ≤ 1048576) (hz : ∀ i, i < zs.length → -2000 ≤ gt zs i ∧ gt zs i ≤ 2000) :
    Calls Try.prog 26 #[.int .i64 (i : Int), .pointer (some ⟨p, 0, none⟩), .pointer (some ⟨q, 0, none⟩)] W fun e w' => e = .returned (.bool (wrongP zs y i)) ∧ Below W.heap.size W w' := by
  have HA := Lib.hid hA
  obtain ⟨b, off, rfl, hbl, hcell⟩ := hA (by rw [ints_len]; omega)
  have f1 := hcell i (by rw [ints_len]; exact hi)
  rw [ints_get zs _ hi] at f1
  have h1 : 1 ≤ zs.length := by omega
  have b1 := hz i hi
  have b2 := med_bd h1 hz
  have u1 : -9007199254740992 ≤ gt zs i - medV zs := by omega
  have u2 : gt zs i - medV zs ≤ 9007199254740992 := by omega
  have H : Hid (wrongP zs y i = decide (y < ((absN (gt zs i - medV zs) : Nat) : Int))) := Lib.hid rfl
  clear hcell hz
  go_enter Try.func26, Try.ntmps26
  have hw : IntKind.i64.wrap (gt zs i - medV zs) = gt zs i - medV zs := IntWalk.i64_in _ (by omega)
  go_wp2
  go_region_held3 (fun w' => w'.cell? ⟨p, 0, none⟩ = some (.slice (some ⟨b, off, none⟩) zs.length c) ∧ w'.cell? ⟨q, 0, none⟩ = some (.int .i64 y) ∧ w'.cell? ⟨b, off + i, none⟩ = some (.int .i64 (gt zs i))) (((try dsimp only); refine ⟨?_, ?_, ?_⟩ <;> (repeat (first | with_reducible assumption | with_reducible refine kc_drew ?_ | with_reducible refine kc_drewN ?_ | with_reducible refine kc_alloc ?_ | with_reducible refine kc_set ?_ (by first | omega | (simp; done) | (simp; omega)))))) (first | (go_at_call 19; with_reducible refine (implMiddle _ _ _ _ (HA.out.below (by repeat (first | exact Below.refl _ _ | assumption | apply bl_alloc | apply bl_drewN | apply Below.drew | (refine bl_set ?_ (by first | exact Nat.le_refl _ | (simp; done) | (simp; omega)) _) | (refine bl_trans ?_ (by assumption))))) hm h1).mono ?_; rintro e w2 ⟨rfl, hb2⟩; have s2 : Below W.heap.size W w2 := (by repeat (first | exact Below.refl _ _ | assumption | apply bl_alloc | apply bl_drewN | apply Below.drew | (refine bl_set ?_ (by first | exact Nat.le_refl _ | (simp; done) | (simp; omega)) _) | (refine bl_trans ?_ (by assumption)))); have r0 := (s2.cell (p := ⟨p, 0, none⟩) hpl).trans hp; have r1 := (s2.cell (p := ⟨q, 0, none⟩) hql).trans hq; have r2 := (s2.cell (p := ⟨b, off + i, none⟩) hbl).trans f1) | (go_at_call 27; refine (abs_any (gt zs i - medV zs) u1 u2 _).mono ?_; rintro e w3 ⟨rfl, rfl⟩) | fail)
  go_wp2
  go_ret
  exact ⟨ret_bool H.out.symm, by repeat (first | exact Below.refl _ _ | assumption | apply bl_alloc | apply bl_drewN | apply Below.drew | (refine bl_set ?_ (by first | exact Nat.le_refl _ | (simp; done) | (simp; omega)) _) | (refine bl_trans ?_ (by assumption)))⟩
set_option maxHeartbeats 800000 in
theorem idxWrong (w : World) (p q : Nat) (A : Option Addr) (c : Nat) (zs : List Int) (y : Int) (hp : w.cell? ⟨p, 0, none⟩ = some (.slice A zs.length c)) (hq : w.cell? ⟨q, 0, none⟩ = some (.int .i64 y)) (hpl : p < w.heap.size) (hql : q < w.heap.size) (hA : RC w A (ints zs)) (hm : zs.length ≤ 1048576) (hz : ∀ i, i < zs.length → -2000 ≤ gt zs i ∧ gt zs i ≤ 2000) :
    Calls Try.prog 24 #[.int .i64 (zs.length : Int), .func (.func 26) #[] #[.pointer (some ⟨p, 0, none⟩), .pointer (some ⟨q, 0, none⟩)]] w (NewInts (idxTo (wrongP zs y) zs.length) w) := by
  have HA := Lib.hid hA
  have HP := Lib.hid hp
  have HQ := Lib.hid hq
  have HZ := Lib.hid hz
  clear hA hp hq hz
  obtain ⟨i0, hi, hz0, hz1, hz2⟩ := info_parts infoInt
  go_enter Try.func24, Try.ntmps24
  go_wp2
  go_loopg [5, 6] zs.length (fun m v i wr => AppRel 2 (idxTo (wrongP zs y)) zs.length w m i v wr)
  case atStart => exact ⟨0, Nat.zero_le _, by omega, rfl, own_lit _ (Below.refl _ _), bl_alloc (Below.refl _ _) _⟩
  case round =>
    obtain ⟨k, hk, hgk, rfl, hown, hb⟩ := hrel
    have HGK := Lib.hid hgk
    clear hgk
    have hlen := idxTo_len (wrongP zs y) k
    by_cases hlt : k < zs.length
    · have KW := Lib.hid (wrong1_any k p q wr A c zs y ((hb.cell (p := ⟨p, 0, none⟩) hpl).trans HP.out) ((hb.cell (p := ⟨q, 0, none⟩) hql).trans HQ.out) (Nat.lt_of_lt_of_le hpl hb.size) (Nat.lt_of_lt_of_le hql hb.size) (HA.out.below hb) hlt hm HZ.out)
      cases hq : (wrongP zs y) k
      · have HS := Lib.hid (idxTo_no hq)
        rw [hq] at KW
        go_wp2_with (go_at_call 26; refine KW.out.mono ?_; rintro e w' ⟨rfl, hbk⟩)
        go_roundg (zs.length - (k + 1))
        case measure => rw [HGK.out]; omega
        case rel => exact ⟨k + 1, by omega, rfl, by go_num, by rw [HS.out]; exact own_bel hown hbk, bl_trans hb hbk⟩
      · have HS := Lib.hid (idxTo_yes hq)
        rw [hq] at KW
        go_wp2_with (first | (go_at_call 26; refine KW.out.mono ?_; rintro e w' ⟨rfl, hbk⟩) | (at_builtin; refine wpList_append_own _ rfl _ _ 22 rfl w.heap.size 2 i0 (.int .i64 0) 1 8 Try.underlying22 hi hz0 hz1 hz2 rfl (by decide) _ _ _ rfl ((own_bel hown hbk).alloc _) ⟨w'.heap.size, 0, none⟩ 1 1 [.int .i64 (k : Int)] rfl rfl (by first | exact app_news (heap_alloc_new _ _) | exact app_news (heap_alloc_new w' _)) (app_one _) (by have := hlen; unfold maxLen; omega) (by have := hlen; omega) (by have := (bl_trans hb hbk).size; simp; omega) ?_; intro v' w1 hown' hgrow _))
        have R1 := Lib.hid (app_own hown' HS.out)
        have R2 := Lib.hid (app_below (bl_alloc (bl_trans hb hbk) _) ((own_bel hown hbk).alloc _) hgrow)
        go_roundg (zs.length - (k + 1))
        case measure => rw [HGK.out]; omega
        case rel => exact ⟨k + 1, by omega, rfl, by go_num, R1.out, R2.out⟩
    · obtain rfl : k = zs.length := by omega
      go_wp2
      go_ret
      exact new_end hown hb
set_option maxHeartbeats 800000 in
theorem implWrong (w : World) (A : Option Addr) (c : Nat) (zs : List Int) (y : Int) (hA : RC w A (ints zs)) (hm : zs.length ≤ 1048576) :
    Calls Try.prog 11 #[.slice A zs.length c, .int .i64 y] w (NewIntsC (wrongL zs y) (wrongC zs y) w) := by
  have HA := Lib.hid hA
  clear hA
  cases k0 : gaugesOk zs
  · have H := Lib.hid (wrong_bad1 (y := y) k0)
    go_enter Try.func11, Try.ntmps11
    go_wp2_with (first | (go_at_call 18; refine (areGauges_any _ _ _ _ (HA.out.below (by repeat (first | exact Below.refl _ _ | assumption | apply bl_alloc | apply bl_drewN | apply Below.drew | (refine bl_set ?_ (by first | exact Nat.le_refl _ | (simp; done) | (simp; omega)) _) | (refine bl_trans ?_ (by assumption))))) hm).mono ?_; rintro e w' ⟨rfl, rfl⟩) | (go_at_call 23; refine (in_any _ _ _ _).mono ?_; rintro e w' ⟨rfl, rfl⟩))
    go_ret2
    rw [H.out.1, H.out.2]
    exact newC_nil _ _ _ _ (by repeat (first | exact Below.refl _ _ | assumption | apply bl_alloc | apply bl_drewN | apply Below.drew | (refine bl_set ?_ (by first | exact Nat.le_refl _ | (simp; done) | (simp; omega)) _) | (refine bl_trans ?_ (by assumption))))
  · cases k1 : inR y 0 4000
    · have H := Lib.hid (wrong_bad2 (zs := zs) k1)
      go_enter Try.func11, Try.ntmps11
      go_wp2_with (first | (go_at_call 18; refine (areGauges_any _ _ _ _ (HA.out.below (by repeat (first | exact Below.refl _ _ | assumption | apply bl_alloc | apply bl_drewN | apply Below.drew | (refine bl_set ?_ (by first | exact Nat.le_refl _ | (simp; done) | (simp; omega)) _) | (refine bl_trans ?_ (by assumption))))) hm).mono ?_; rintro e w' ⟨rfl, rfl⟩) | (go_at_call 23; refine (in_any _ _ _ _).mono ?_; rintro e w' ⟨rfl, rfl⟩))
      go_ret2
      rw [H.out.1, H.out.2]
      exact newC_nil _ _ _ _ (by repeat (first | exact Below.refl _ _ | assumption | apply bl_alloc | apply bl_drewN | apply Below.drew | (refine bl_set ?_ (by first | exact Nat.le_refl _ | (simp; done) | (simp; omega)) _) | (refine bl_trans ?_ (by assumption))))
    · have H := Lib.hid (wrong_ok k0 k1)
      have HZ := Lib.hid (gaugesOk_of k0).2
      go_enter Try.func11, Try.ntmps11
      go_wp2_with (first | (go_at_call 18; refine (areGauges_any _ _ _ _ (HA.out.below (by repeat (first | exact Below.refl _ _ | assumption | apply bl_alloc | apply bl_drewN | apply Below.drew | (refine bl_set ?_ (by first | exact Nat.le_refl _ | (simp; done) | (simp; omega)) _) | (refine bl_trans ?_ (by assumption))))) hm).mono ?_; rintro e w' ⟨rfl, rfl⟩) | (go_at_call 23; refine (in_any _ _ _ _).mono ?_; rintro e w' ⟨rfl, rfl⟩) | (go_at_call 25; go_in) | (go_at_call 24; refine (idxWrong _ w.heap.size (w.heap.size + 1) A c zs y (by simp [go_sem]) (by simp [go_sem]) (by first | (simp; done) | (simp; omega)) (by first | (simp; done) | (simp; omega)) (HA.out.below (by repeat (first | exact Below.refl _ _ | assumption | apply bl_alloc | apply bl_drewN | apply Below.drew | (refine bl_set ?_ (by first | exact Nat.le_refl _ | (simp; done) | (simp; omega)) _) | (refine bl_trans ?_ (by assumption))))) hm HZ.out).mono ?_; rintro e w1 ⟨A1, c1, rfl, ho, hb⟩))
      go_ret2
      rw [H.out.1, H.out.2]
      exact newC_of ho (by repeat (first | exact Below.refl _ _ | assumption | apply bl_alloc | apply bl_drewN | apply Below.drew | (refine bl_set ?_ (by first | exact Nat.le_refl _ | (simp; done) | (simp; omega)) _) | (refine bl_trans ?_ (by assumption)))) hb
set_option maxHeartbeats 3200000 in
theorem specWrong (w : World) (A : Option Addr) (c : Nat) (zs : List Int) (y : Int) (hA : RC w A (ints zs)) (hm : zs.length ≤ 1048576) :
    Calls Try.prog 10 #[.slice A zs.length c, .int .i64 y] w (NewIntsC (wrongL zs y) (wrongC zs y) w) := by
  have HA := Lib.hid hA
  clear hA
  cases k0 : gaugesOk zs
  · have H := Lib.hid (wrong_bad1 (y := y) k0)
    have hc := lvlCode_false k0
    go_enter Try.func10, Try.ntmps10
    go_wp2_with (first | (go_at_call 20; refine (l02List_any _ _ _ _ HA.out hm).mono ?_; rintro e w' ⟨rfl, rfl⟩) | (go_at_call 21; refine (l00In_any _ _ _ _).mono ?_; rintro e w' ⟨rfl, rfl⟩))
    go_ret2
    rw [H.out.1, H.out.2]
    exact newC_nil _ _ _ _ (by repeat (first | exact Below.refl _ _ | assumption | apply bl_alloc | apply bl_drewN | apply Below.drew | (refine bl_set ?_ (by first | exact Nat.le_refl _ | (simp; done) | (simp; omega)) _) | (refine bl_trans ?_ (by assumption))))
  · have hc := lvlCode_true k0
    cases k1 : inR y 0 4000
    · have H := Lib.hid (wrong_bad2 (zs := zs) k1)
      go_enter Try.func10, Try.ntmps10
      go_wp2_with (first | (go_at_call 20; refine (l02List_any _ _ _ _ HA.out hm).mono ?_; rintro e w' ⟨rfl, rfl⟩) | (go_at_call 21; refine (l00In_any _ _ _ _).mono ?_; rintro e w' ⟨rfl, rfl⟩))
      go_ret2
      rw [H.out.1, H.out.2]
      exact newC_nil _ _ _ _ (by repeat (first | exact Below.refl _ _ | assumption | apply bl_alloc | apply bl_drewN | apply Below.drew | (refine bl_set ?_ (by first | exact Nat.le_refl _ | (simp; done) | (simp; omega)) _) | (refine bl_trans ?_ (by assumption))))
    · have H := Lib.hid (wrong_ok k0 k1)
      have HZ := Lib.hid (gaugesOk_of k0).2
      obtain ⟨i0, hi, hz0, hz1, hz2⟩ := info_parts infoInt
      go_enter Try.func10, Try.ntmps10
      go_wp2_with (first | (go_at_call 20; refine (l02List_any _ _ _ _ HA.out hm).mono ?_; rintro e w' ⟨rfl, rfl⟩) | (go_at_call 21; refine (l00In_any _ _ _ _).mono ?_; rintro e w' ⟨rfl, rfl⟩))
      go_loopg [7, 8] zs.length (fun m v i wr => AppRel 2 (idxTo (wrongP zs y)) zs.length w m i v wr)
      case atStart => exact ⟨0, Nat.zero_le _, by omega, rfl, own_lit _ (Below.refl _ _), bl_alloc (Below.refl _ _) _⟩
      case round =>
        obtain ⟨k, hk, hgk, rfl, hown, hb⟩ := hrel
        have HGK := Lib.hid hgk
        clear hgk
        have hlen := idxTo_len (wrongP zs y) k
        by_cases hlt : k < zs.length
        · have h1 : 1 ≤ zs.length := by omega
          obtain ⟨b, off, rfl, hbl, hcell⟩ := HA.out (by rw [ints_len]; omega)
          have f1 := (hb.cell (p := ⟨b, off + k, none⟩) hbl).trans (hcell k (by rw [ints_len]; exact hlt))
          rw [ints_get zs _ hlt] at f1
          have b1 := HZ.out k hlt
          have b2 := med_bd h1 HZ.out
          have u1 : -9007199254740992 ≤ gt zs k - medV zs := by omega
          have u2 : gt zs k - medV zs ≤ 9007199254740992 := by omega
          clear hcell
          have hw : IntKind.i64.wrap (gt zs k - medV zs) = gt zs k - medV zs := IntWalk.i64_in _ (by omega)
          by_cases hv : y < ((absN (gt zs k - medV zs) : Nat) : Int)
          · have HS := Lib.hid (idxTo_yes (wrongP_yes (zs := zs) (y := y) (i := k) hv))
            go_wp2
            go_region_held3 (fun w' => w'.cell? ⟨b, off + k, none⟩ = some (.int .i64 (gt zs k))) (repeat (first | with_reducible assumption | with_reducible refine kc_drew ?_ | with_reducible refine kc_drewN ?_ | with_reducible refine kc_alloc ?_ | with_reducible refine kc_set ?_ (by first | omega | (simp; done) | (simp; omega)))) (first | (go_at_call 17; with_reducible refine (l02Middle_any _ _ _ _ (HA.out.below (by repeat (first | exact Below.refl _ _ | assumption | apply bl_alloc | apply bl_drewN | apply Below.drew | (refine bl_set ?_ (by first | exact Nat.le_refl _ | (simp; done) | (simp; omega)) _) | (refine bl_trans ?_ (by assumption))))) hm h1).mono ?_; rintro e w2 ⟨rfl, hb2⟩; have s2 : Below wr.heap.size wr w2 := (by repeat (first | exact Below.refl _ _ | assumption | apply bl_alloc | apply bl_drewN | apply Below.drew | (refine bl_set ?_ (by first | exact Nat.le_refl _ | (simp; done) | (simp; omega)) _) | (refine bl_trans ?_ (by assumption)))); have s3 : Below w.heap.size w w2 := bl_trans hb s2; have r2 := (s2.cell (p := ⟨b, off + k, none⟩) (Nat.lt_of_lt_of_le hbl hb.size)).trans f1) | (go_at_call 22; refine (l02Size_any (gt zs k - medV zs) u1 u2 _).mono ?_; rintro e w3 ⟨rfl, rfl⟩) | fail)
            clear hw
            go_wp2_with (at_builtin; refine wpList_append_own _ rfl _ _ 22 rfl w.heap.size 2 i0 (.int .i64 0) 1 8 Try.underlying22 hi hz0 hz1 hz2 rfl (by decide) _ _ _ rfl ((own_bel hown (by repeat (first | exact Below.refl _ _ | assumption | apply bl_alloc | apply bl_drewN | apply Below.drew | (refine bl_set ?_ (by first | exact Nat.le_refl _ | (simp; done) | (simp; omega)) _) | (refine bl_trans ?_ (by assumption))))).alloc _) ⟨w2.heap.size, 0, none⟩ 1 1 [.int .i64 (k : Int)] rfl rfl (by first | exact app_news (heap_alloc_new _ _) | exact app_news (heap_alloc_new w2 _)) (app_one _) (by have := hlen; unfold maxLen; omega) (by have := hlen; omega) (by have := s3.size; simp; omega) ?_; intro v' w1 hown' hgrow _)
            have R1 := Lib.hid (app_own hown' HS.out)
            have R2 := Lib.hid (app_below (bl_alloc (by repeat (first | exact Below.refl _ _ | assumption | apply bl_alloc | apply bl_drewN | apply Below.drew | (refine bl_set ?_ (by first | exact Nat.le_refl _ | (simp; done) | (simp; omega)) _) | (refine bl_trans ?_ (by assumption)))) _) ((own_bel hown (by repeat (first | exact Below.refl _ _ | assumption | apply bl_alloc | apply bl_drewN | apply Below.drew | (refine bl_set ?_ (by first | exact Nat.le_refl _ | (simp; done) | (simp; omega)) _) | (refine bl_trans ?_ (by assumption))))).alloc _) hgrow)
            go_roundg (zs.length - (k + 1))
            case measure => rw [HGK.out]; omega
            case rel => exact ⟨k + 1, by omega, rfl, by go_num, R1.out, R2.out⟩
          · have HS := Lib.hid (idxTo_no (wrongP_no (zs := zs) (y := y) (i := k) hv))
            go_wp2
            go_region_held3 (fun w' => w'.cell? ⟨b, off + k, none⟩ = some (.int .i64 (gt zs k))) (repeat (first | with_reducible assumption | with_reducible refine kc_drew ?_ | with_reducible refine kc_drewN ?_ | with_reducible refine kc_alloc ?_ | with_reducible refine kc_set ?_ (by first | omega | (simp; done) | (simp; omega)))) (first | (go_at_call 17; with_reducible refine (l02Middle_any _ _ _ _ (HA.out.below (by repeat (first | exact Below.refl _ _ | assumption | apply bl_alloc | apply bl_drewN | apply Below.drew | (refine bl_set ?_ (by first | exact Nat.le_refl _ | (simp; done) | (simp; omega)) _) | (refine bl_trans ?_ (by assumption))))) hm h1).mono ?_; rintro e w2 ⟨rfl, hb2⟩; have s2 : Below wr.heap.size wr w2 := (by repeat (first | exact Below.refl _ _ | assumption | apply bl_alloc | apply bl_drewN | apply Below.drew | (refine bl_set ?_ (by first | exact Nat.le_refl _ | (simp; done) | (simp; omega)) _) | (refine bl_trans ?_ (by assumption)))); have s3 : Below w.heap.size w w2 := bl_trans hb s2; have r2 := (s2.cell (p := ⟨b, off + k, none⟩) (Nat.lt_of_lt_of_le hbl hb.size)).trans f1) | (go_at_call 22; refine (l02Size_any (gt zs k - medV zs) u1 u2 _).mono ?_; rintro e w3 ⟨rfl, rfl⟩) | fail)
            clear hw
            go_wp2
            go_roundg (zs.length - (k + 1))
            case measure => rw [HGK.out]; omega
            case rel => exact ⟨k + 1, by omega, rfl, by go_num, by rw [HS.out]; exact own_bel hown (by repeat (first | exact Below.refl _ _ | assumption | apply bl_alloc | apply bl_drewN | apply Below.drew | (refine bl_set ?_ (by first | exact Nat.le_refl _ | (simp; done) | (simp; omega)) _) | (refine bl_trans ?_ (by assumption)))), by repeat (first | exact Below.refl _ _ | assumption | apply bl_alloc | apply bl_drewN | apply Below.drew | (refine bl_set ?_ (by first | exact Nat.le_refl _ | (simp; done) | (simp; omega)) _) | (refine bl_trans ?_ (by assumption)))⟩
        · obtain rfl : k = zs.length := by omega
          go_wp2
          go_ret2
          rw [H.out.1, H.out.2]
          exact newC_end hown hb
end Go.Proofs.Ytfkleaagpflpkaa
