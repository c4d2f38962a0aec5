/-
  Contracts on nets: a copy of ditches, a net without a ditch. They hold for at most 1048576 ditches.
-/
import Derived.Test.YthgdiddgooippaaNetOk
import Derived.Test.YthgdiddgooippaaOpen
import Derived.Test.YthgdiddgooippaaClosePlain
import Derived.StillTailTactics
import Derived.Deep.RegionHeld3
import Derived.Deep.AppendLies
namespace Go.Proofs.Ythgdiddgooippaa
set_option linter.unusedVariables false
open Go.RowKit

theorem gt_drop (fl : List Int) (a i : Nat) : gt (fl.drop a) i = gt fl (a + i) := by
  simp [gt, List.getD_eq_getElem?_getD, List.getElem?_drop]
/-- a call that makes a new net, its list behind the result -/
def NewNet2 (J : Int) (n : Nat) (fl : List Int) (w : World) (e : Ending) (w' : World) : Prop :=
  ∃ A k, e = .returned (.agg #[.int .i64 J, .slice A n k]) ∧ OwnC w.heap.size w'.heap.size w' A (ints fl) ∧ Below w.heap.size w w'
theorem newsB {w W : World} {b off : Nat} {cs : List Value} (hb : Below w.heap.size w W) (hbl : b < w.heap.size) (h : ∀ i, i < cs.length → w.cell? ⟨b, off + i, none⟩ = cs[i]?) : ∀ j u, cs[j]? = some u → W.cell? (Addr.add ⟨b, off, none⟩ j) = some u := by
  intro j u hj
  have hl : j < cs.length := (List.getElem?_eq_some_iff.1 hj).1
  have h1 := ((hb.cell (p := ⟨b, off + j, none⟩) hbl).trans (h j hl)).trans hj
  by_cases e : j = 0
  · subst e; simpa [Addr.add] using h1
  · simpa [Addr.add, e] using h1
theorem ints_one3 (zs : List Int) : ∀ u ∈ ints zs, u.oneCell' = true := by
  intro u hu
  simp only [ints, List.mem_map] at hu
  obtain ⟨x, _, rfl⟩ := hu
  rfl
theorem own_lit3 {W : World} (T : TypeId) (B : Nat) (hB : B ≤ W.heap.size) : (W.alloc (.cells #[] T)).ownsRow B T 3 (.slice (some ⟨W.heap.size, 0, none⟩) 0 0) 0 (ints []) :=
  World.ownsRow_lit (e := T) (size := 3) W #[] 0 hB (Nat.zero_le _) rfl
theorem own_lit3b {w : World} (o : Obj) (T : TypeId) : ((w.alloc o).alloc (.cells #[] T)).ownsRow (w.heap.size + 1) T 3 (.slice (some ⟨w.heap.size + 1, 0, none⟩) 0 0) 0 (ints []) := by
  have h := own_lit3 (W := w.alloc o) T (w.heap.size + 1) (by simp)
  simpa using h
theorem own_cap3 {wr : World} {B T n : Nat} {v : Value} {xs : List Value} (hown : wr.ownsRow B T 3 v n xs) (hv : v ≠ .slice none 0 0) : ∃ g c, v = .slice (some ⟨g, 0, none⟩) n c ∧ n ≤ c := by
  rcases hown.2 with ⟨rfl, h0⟩ | ⟨g, cap, cur, rfl, hb, hg, hn, hm, hs, ht⟩
  · exact absurd rfl hv
  · exact ⟨_, _, rfl, hn⟩
/-- a list of ditches that the call has appended, as a list of its own behind B -/
theorem own_end3 {wr : World} {B T n : Nat} {v : Value} {xs : List Int} (hown : wr.ownsRow B T 3 v n (ints xs)) (lx : xs.length = n * 3) :
    ∃ A c, v = .slice A n c ∧ OwnC B wr.heap.size wr A (ints xs) := by
  rcases hown.2 with ⟨rfl, h0⟩ | ⟨g, cap, cur, rfl, hb, hg, hn, hm, hs, ht⟩
  · refine ⟨none, 0, by rw [h0], ?_⟩
    intro h
    rw [ints_len, lx, h0] at h
    exact absurd h (by omega)
  · refine ⟨_, _, rfl, fun _ => ⟨g, cur, T, rfl, hb, (Array.getElem?_eq_some_iff.1 hg).1, hg, fun i hi => ?_⟩⟩
    rw [ints_len, lx] at hi
    rw [← ht, List.getElem?_take, if_pos (by omega)]
    simp

set_option maxHeartbeats 800000 in
theorem cloneDit (w : World) (b off m c : Nat) (xs : List Int) (hN : 0 < m → b < w.heap.size ∧ ∀ i, i < (ints xs).length → w.cell? ⟨b, off + i, none⟩ = (ints xs)[i]?) (lx : xs.length = m * 3) (hm : m ≤ 1048576) :
    Calls Try.prog 47 #[.slice (some ⟨b, off, none⟩) m c] w fun e w' => ∃ v, e = .returned v ∧ w'.ownsRow w.heap.size 38 3 v m (ints xs) ∧ v ≠ .slice none 0 0 ∧ Below w.heap.size w w' := by
  obtain ⟨i0, hi, hz0, hz1, hz2⟩ := info_parts infoDitch
  have HN : Hid (∀ (o : Obj) (j : Nat) (u : Value), (ints xs)[j]? = some u → (w.alloc o).cell? (Addr.add ⟨b, off, none⟩ j) = some u) := Lib.hid fun o j u hj => by
    have hl := (List.getElem?_eq_some_iff.1 hj).1
    rw [ints_len, lx] at hl
    have h := hN (by omega)
    exact newsB (bl_alloc (Below.refl w.heap.size w) o) h.1 h.2 j u hj
  have HL := Lib.hid lx
  clear hN lx
  go_enter Try.func47, Try.ntmps47
  go_wp2_with (at_builtin; refine wpList_append_own _ rfl _ _ 27 rfl w.heap.size 38 i0 (.agg #[.int .i64 0, .int .i64 0, .int .i64 0]) 3 24 Try.underlying27 hi hz0 hz1 hz2 rfl (by decide) _ _ _ rfl (own_lit3 _ _ (Nat.le_refl _)) ⟨b, off, none⟩ m c (ints xs) rfl ((ints_len _).trans HL.out) (HN.out _) (ints_one3 _) (by unfold maxLen; omega) (by omega) (by simp) ?_; intro v' w1 hown' hgrow hne)
  have R1 := Lib.hid (show w1.ownsRow w.heap.size 38 3 v' m (ints xs) by simpa [ints] using hown')
  have R2 := Lib.hid (app_belowB (bl_alloc (Below.refl _ _) _) (own_lit3 _ _ (Nat.le_refl _)) (Nat.le_refl _) hgrow)
  have NE := Lib.hid (show v' ≠ .slice none 0 0 from fun h => (by have h1 := (hne.1 h).1; cases h1))
  clear hown' hgrow hne
  go_wp2
  go_ret
  exact ⟨_, rfl, R1.out, NE.out, R2.out⟩
set_option maxRecDepth 100000 in
set_option maxHeartbeats 1600000 in
theorem specWithout (w : World) (p g n K : Nat) (J : Int) (fl : List Int) (hp0 : w.cell? ⟨p, 0, none⟩ = some (.int .i64 J)) (hp1 : w.cell? ⟨p, 1, none⟩ = some (.slice (some ⟨g, 0, none⟩) n n)) (hA : RC w (some ⟨g, 0, none⟩) (ints fl)) (lf : fl.length = n * 3) (hm : n ≤ 1048576) (hK : K < n) :
    Calls Try.prog 51 #[.pointer (some ⟨p, 0, none⟩), .int .i64 (K : Int)] w (NewNet2 J (n - 1) (dropD fl K) w) := by
  obtain ⟨i0, hi, hz0, hz1, hz2⟩ := info_parts infoDitch
  obtain ⟨b', off', hg', hbl, hcell⟩ := hA (by rw [ints_len, lf]; omega)
  cases hg'
  have hpl : p < w.heap.size := World.block_lt_of_cell? w _ hp0
  have c1 : ∀ i, i < (ints (fl.take (K * 3))).length → w.cell? ⟨g, 0 + i, none⟩ = (ints (fl.take (K * 3)))[i]? := fun i hi => by
    rw [ints_len, List.length_take, lf] at hi
    rw [hcell i (by rw [ints_len, lf]; omega), ints_get _ _ (by rw [lf]; omega), ints_get _ _ (by rw [List.length_take, lf]; exact hi), gt_take _ _ _ (by omega)]
  have HN := Lib.hid (fun (o o' : Obj) => newsB (bl_alloc (bl_alloc (Below.refl w.heap.size w) o) o') hbl c1)
  have L1 := Lib.hid (show (fl.take (K * 3)).length = K * 3 by rw [List.length_take, lf]; omega)
  have HC := Lib.hid hcell
  have HL := Lib.hid lf
  clear hcell lf hA c1
  have hKn : (K : Int) ≤ (n : Int) := by omega
  have hn0 : ¬ n = 0 := by omega
  go_enter Try.func51, Try.ntmps51
  go_wp2_with (at_builtin; refine wpList_append_own _ rfl _ _ 27 rfl (w.heap.size + 1) 38 i0 (.agg #[.int .i64 0, .int .i64 0, .int .i64 0]) 3 24 Try.underlying27 hi hz0 hz1 hz2 rfl (by decide) _ _ _ rfl (own_lit3b _ _) ⟨g, 0, none⟩ K n (ints (fl.take (K * 3))) rfl ((ints_len _).trans L1.out) (HN.out _ _) (ints_one3 _) (by unfold maxLen; omega) (by omega) (by simp) ?_; intro v' w1 hown' hgrow hne)
  have NE := Lib.hid (show v' ≠ .slice none 0 0 from fun h => (by have h1 := (hne.1 h).1; cases h1))
  clear hne
  have R1 := Lib.hid (show w1.ownsRow (w.heap.size + 1) 38 3 v' K (ints (fl.take (K * 3))) by simpa [ints] using hown')
  have R2 := Lib.hid (show Below w.heap.size w w1 from app_belowB (by repeat (first | exact Below.refl _ _ | assumption | apply bl_alloc | apply bl_drewN | apply Below.drew | (refine bl_set ?_ (by first | exact Nat.le_refl _ | (simp; done) | (simp; omega)) _) | (refine bl_trans ?_ (by assumption)))) (own_lit3b _ _) (Nat.le_succ _) hgrow)
  have kr : w1.heap[w.heap.size]? = some (.cells #[.int .i64 0, .slice none 0 0] 29 (0, 0)) := app_keep (own_lit3b _ _) hgrow (by repeat (first | (refine blk_new ?_; (first | rfl | (simp; done) | (simp; omega))) | refine blk_drewN ?_ | refine blk_old ?_)) (Nat.lt_succ_self _)
  have HP0 := Lib.hid hp0
  have HP1 := Lib.hid hp1
  have hp0 := (R2.out.cell (p := ⟨p, 0, none⟩) hpl).trans hp0
  have hp1 := (R2.out.cell (p := ⟨p, 1, none⟩) hpl).trans hp1
  have hzw : w.heap.size + 1 ≤ w1.heap.size := blk_lt kr
  clear hown' hgrow HN
  have wK : IntKind.i64.wrap ((K : Int) + 1) = (K : Int) + 1 := IntWalk.i64_in _ (by omega)
  have tK : ((K : Int) + 1).toNat = K + 1 := by omega
  have pK : 0 ≤ (K : Int) + 1 := by omega
  have lK : (K : Int) + 1 ≤ (n : Int) := by omega
  by_cases hl : n = K + 1
  · obtain ⟨g1, c1, rfl, hc1⟩ := own_cap3 R1.out NE.out
    subst hl
    have hc1' : ¬ c1 < K := by omega
    obtain ⟨v0, v1, vf0, vf1, vl⟩ := cells_two kr (Below.refl _ _)
    have HE := Lib.hid (dropD_last HL.out)
    go_wp2
    go_region_held3 (fun w' => w'.cell? ⟨p, 0, none⟩ = some (.int .i64 J) ∧ w'.cell? ⟨p, 1, none⟩ = some (.slice (some ⟨g, 0, none⟩) (K + 1) (K + 1))) (((try dsimp only); refine ⟨?_, ?_⟩ <;> (repeat (first | with_reducible assumption | with_reducible refine kc_drew ?_ | with_reducible refine kc_drewN ?_ | with_reducible refine kc_alloc ?_ | with_reducible refine kc_set ?_ (by first | omega | (simp; done) | (simp; omega)))))) (fail)
    go_wp2
    obtain ⟨A2, k2, hv, ho2⟩ := own_end3 R1.out L1.out
    simp only [Value.slice.injEq] at hv
    obtain ⟨rfl, _, rfl⟩ := hv
    exact bodyPost_ret (v := .agg #[.int .i64 J, .slice (some ⟨g1, 0, none⟩) K c1]) (by simp [results, Try.results51, go_sem, v0, v1]) rfl ⟨_, _, rfl, by rw [HE.out]; exact ((ho2.far (.inl (by simp)) _).far (.inl (by simp)) _).wide (by simp) (by simp), by have r2 := R2.out; repeat (first | exact Below.refl _ _ | assumption | apply bl_alloc | apply bl_drewN | apply Below.drew | (refine bl_set ?_ (by first | exact Nat.le_refl _ | (simp; done) | (simp; omega)) _) | (refine bl_trans ?_ (by assumption)))⟩
  · have c2 : ∀ i, i < (ints (fl.drop ((K + 1) * 3))).length → w.cell? ⟨g, (K + 1) * 3 + i, none⟩ = (ints (fl.drop ((K + 1) * 3)))[i]? := fun i hi => by
      rw [ints_len, List.length_drop, HL.out] at hi
      have h := HC.out ((K + 1) * 3 + i) (by rw [ints_len, HL.out]; omega)
      rw [Nat.zero_add] at h
      rw [h, ints_get _ _ (by rw [HL.out]; omega), ints_get _ _ (by rw [List.length_drop, HL.out]; exact hi), gt_drop]
    have HN2 := Lib.hid (fun (W : World) (hW : Below w.heap.size w W) => newsB hW hbl c2)
    have L2 := Lib.hid (show (fl.drop ((K + 1) * 3)).length = (n - (K + 1)) * 3 by rw [List.length_drop, HL.out]; omega)
    clear c2
    have hnK : ¬ n = K + 1 := hl
    go_wp2
    go_region_held3 (fun w' => w'.cell? ⟨p, 0, none⟩ = some (.int .i64 J) ∧ w'.cell? ⟨p, 1, none⟩ = some (.slice (some ⟨g, 0, none⟩) n n)) (((try dsimp only); refine ⟨?_, ?_⟩ <;> (repeat (first | with_reducible assumption | with_reducible refine kc_drew ?_ | with_reducible refine kc_drewN ?_ | with_reducible refine kc_alloc ?_ | with_reducible refine kc_set ?_ (by first | omega | (simp; done) | (simp; omega)))))) ((refine step_append_lies _ (by rfl) _ _ _ (by rfl) (w.heap.size + 1) 38 i0 _ 3 24 Try.underlying27 hi hz0 hz1 hz2 rfl (by decide) v' K (ints (fl.take (K * 3))) (by rfl) R1.out ⟨g, (K + 1) * 3, none⟩ (n - (K + 1)) (n - (K + 1)) (ints (fl.drop ((K + 1) * 3))) (by rfl) ((ints_len _).trans L2.out) (HN2.out _ R2.out.drew) (ints_one3 _) (by omega) (by unfold maxLen; omega) (by omega) hzw w1.heap.size rfl ?_; intro g2 cap2 w2 hown2 hgrow2 hat2 hlt2; have hown3 : w2.ownsRow (w.heap.size + 1) 38 3 (.slice (some ⟨g2, 0, none⟩) (K + (n - (K + 1))) cap2) (n - 1) (ints (dropD fl K)) := (by have e : K + (n - (K + 1)) = n - 1 := (by omega); rw [e] at hown2 ⊢; simpa [dropD, ints] using hown2); have R3 := Lib.hid (show Below w.heap.size w w2 from app_belowB R2.out.drew (show w1.drew.ownsRow (w.heap.size + 1) 38 3 v' K (ints (fl.take (K * 3))) from R1.out) (Nat.le_succ _) hgrow2); have hq0 := (R3.out.cell (p := ⟨p, 0, none⟩) hpl).trans HP0.out; have hq1 := (R3.out.cell (p := ⟨p, 1, none⟩) hpl).trans HP1.out; have kr2 := app_keep (show w1.drew.ownsRow (w.heap.size + 1) 38 3 v' K (ints (fl.take (K * 3))) from R1.out) hgrow2 kr (Nat.lt_succ_self _); obtain ⟨v0, v1, vf0, vf1, vl⟩ := cells_two kr2 (Below.refl _ _)))
    go_wp2
    obtain ⟨A2, k2, hv, ho2⟩ := own_end3 hown3 (dropD_len HL.out hK)
    simp only [Value.slice.injEq] at hv
    obtain ⟨rfl, hlen, rfl⟩ := hv
    exact bodyPost_ret (v := .agg #[.int .i64 J, .slice (some ⟨g2, 0, none⟩) (n - 1) cap2]) (by simp [results, Try.results51, go_sem, v0, v1, hlen]) rfl ⟨_, _, rfl, ((ho2.far (.inl (by simp)) _).far (.inl (by simp)) _).wide (by simp) (by simp), by have r3 := R3.out; repeat (first | exact Below.refl _ _ | assumption | apply bl_alloc | apply bl_drewN | apply Below.drew | (refine bl_set ?_ (by first | exact Nat.le_refl _ | (simp; done) | (simp; omega)) _) | (refine bl_trans ?_ (by assumption)))⟩
set_option maxRecDepth 100000 in
set_option maxHeartbeats 1600000 in
theorem implWithout (w : World) (g n K : Nat) (J : Int) (fl : List Int) (hA : RC w (some ⟨g, 0, none⟩) (ints fl)) (lf : fl.length = n * 3) (hm : n ≤ 1048576) (hK : K < n) :
    Calls Try.prog 53 #[.agg #[.int .i64 J, .slice (some ⟨g, 0, none⟩) n n], .int .i64 (K : Int)] w (NewNet2 J (n - 1) (dropD fl K) w) := by
  obtain ⟨i0, hi, hz0, hz1, hz2⟩ := info_parts infoDitch
  obtain ⟨b', off', hg', hbl, hcell⟩ := hA (by rw [ints_len, lf]; omega)
  cases hg'
  have C1 : Hid (∀ i, i < (ints (fl.take (K * 3))).length → w.cell? ⟨g, 0 + i, none⟩ = (ints (fl.take (K * 3)))[i]?) := Lib.hid fun i hi => by
    rw [ints_len, List.length_take, lf] at hi
    rw [hcell i (by rw [ints_len, lf]; omega), ints_get _ _ (by rw [lf]; omega), ints_get _ _ (by rw [List.length_take, lf]; exact hi), gt_take _ _ _ (by omega)]
  have L1 := Lib.hid (show (fl.take (K * 3)).length = K * 3 by rw [List.length_take, lf]; omega)
  have HC := Lib.hid hcell
  have HL := Lib.hid lf
  clear hcell lf hA
  have hKn : (K : Int) ≤ (n : Int) := by omega
  have hn0 : ¬ n = 0 := by omega
  have wK : IntKind.i64.wrap ((K : Int) + 1) = (K : Int) + 1 := IntWalk.i64_in _ (by omega)
  have tK : ((K : Int) + 1).toNat = K + 1 := by omega
  have pK : 0 ≤ (K : Int) + 1 := by omega
  have lK : (K : Int) + 1 ≤ (n : Int) := by omega
  have hbl' : g < w.heap.size := hbl
  by_cases hl : n = K + 1
  · subst hl
    have HE := Lib.hid (dropD_last HL.out)
    have hs1 : (K : Int) ≤ (K : Int) + 1 := by omega
    have hs2 : (K : Int) ≤ ((K + 1 : Nat) : Int) := by omega
    have hs3 : (K : Int) + 1 ≤ ((K + 1 : Nat) : Int) := by omega
    have hs0 : (0 : Int) ≤ (K : Int) := by omega
    have z0 : ((w.alloc (.cells #[.int .i64 J, .slice (some ⟨g, 0, none⟩) (K + 1) (K + 1)] 29)).alloc (.cells #[.int .i64 0, .slice none 0 0] 29)).cell? ⟨w.heap.size, 0, none⟩ = some (.int .i64 J) := by simp [go_sem]
    have z1 : ((w.alloc (.cells #[.int .i64 J, .slice (some ⟨g, 0, none⟩) (K + 1) (K + 1)] 29)).alloc (.cells #[.int .i64 0, .slice none 0 0] 29)).cell? ⟨w.heap.size, 1, none⟩ = some (.slice (some ⟨g, 0, none⟩) (K + 1) (K + 1)) := by simp [go_sem]
    go_enter Try.func53, Try.ntmps53
    go_wp2_with fail
    go_region_held3 (fun w' => w'.cell? ⟨w.heap.size, 0, none⟩ = some (.int .i64 J) ∧ w'.cell? ⟨w.heap.size, 1, none⟩ = some (.slice (some ⟨g, 0, none⟩) (K + 1) (K + 1))) (((try dsimp only); refine ⟨?_, ?_⟩ <;> (repeat (first | with_reducible assumption | with_reducible refine kc_drew ?_ | with_reducible refine kc_drewN ?_ | with_reducible refine kc_alloc ?_ | with_reducible refine kc_set ?_ (by first | omega | (simp; done) | (simp; omega)))))) ((go_at_call 47; refine (cloneDit _ g 0 K (K + 1) (fl.take (K * 3)) (fun _ => ⟨by have := hbl; simp; omega, fun i hi => ((show Below w.heap.size w _ by repeat (first | exact Below.refl _ _ | assumption | apply bl_alloc | apply bl_drewN | apply Below.drew | (refine bl_set ?_ (by first | exact Nat.le_refl _ | (simp; done) | (simp; omega)) _) | (refine bl_trans ?_ (by assumption)))).cell (p := ⟨g, 0 + i, none⟩) hbl).trans (C1.out i hi)⟩) L1.out (by omega)).mono ?_; rintro e w1 ⟨v', rfl, hown', hne, hb1⟩; have R1 := Lib.hid (show w1.ownsRow (w.heap.size + 2) 38 3 v' K (ints (fl.take (K * 3))) by simpa using hown'); have R2 := Lib.hid (show Below w.heap.size w w1 by repeat (first | exact Below.refl _ _ | assumption | apply bl_alloc | apply bl_drewN | apply Below.drew | (refine bl_set ?_ (by first | exact Nat.le_refl _ | (simp; done) | (simp; omega)) _) | (refine bl_trans ?_ (by assumption)))); have kx : w1.heap[w.heap.size]? = some (.cells #[.int .i64 J, .slice (some ⟨g, 0, none⟩) (K + 1) (K + 1)] 29 (0, 0)) := keep_blk (hb := hb1) (h := by repeat (first | (refine blk_new ?_; (first | rfl | (simp; done) | (simp; omega))) | refine blk_drewN ?_ | refine blk_old ?_)); have kr : w1.heap[w.heap.size + 1]? = some (.cells #[.int .i64 0, .slice none 0 0] 29 (0, 0)) := keep_blk (hb := hb1) (h := by repeat (first | (refine blk_new ?_; (first | rfl | (simp; done) | (simp; omega))) | refine blk_drewN ?_ | refine blk_old ?_)); obtain ⟨x0, x1, xl⟩ := row_two kx; obtain ⟨y0, y1, yf0, yf1, yl⟩ := cells_two kr (Below.refl _ _); have hzw : w.heap.size + 2 ≤ w1.heap.size := blk_lt kr; clear hown' hb1; obtain ⟨g1, c1, rfl, hc1⟩ := own_cap3 R1.out hne; have hc1' : ¬ c1 < K := (by omega)))
    go_wp2
    obtain ⟨A2, k2, hv, ho2⟩ := own_end3 R1.out L1.out
    simp only [Value.slice.injEq] at hv
    obtain ⟨rfl, _, rfl⟩ := hv
    exact bodyPost_ret (v := .agg #[.int .i64 J, .slice (some ⟨g1, 0, none⟩) K c1]) (by simp [results, Try.results53, go_sem, y0, y1]) rfl ⟨_, _, rfl, by rw [HE.out]; exact ((ho2.far (.inl (by simp)) _).far (.inl (by simp)) _).wide (by simp) (by simp), by have r2 := R2.out; repeat (first | exact Below.refl _ _ | assumption | apply bl_alloc | apply bl_drewN | apply Below.drew | (refine bl_set ?_ (by first | exact Nat.le_refl _ | (simp; done) | (simp; omega)) _) | (refine bl_trans ?_ (by assumption)))⟩
  · have c2 : ∀ i, i < (ints (fl.drop ((K + 1) * 3))).length → w.cell? ⟨g, (K + 1) * 3 + i, none⟩ = (ints (fl.drop ((K + 1) * 3)))[i]? := fun i hi => by
      rw [ints_len, List.length_drop, HL.out] at hi
      have h := HC.out ((K + 1) * 3 + i) (by rw [ints_len, HL.out]; omega)
      rw [Nat.zero_add] at h
      rw [h, ints_get _ _ (by rw [HL.out]; omega), ints_get _ _ (by rw [List.length_drop, HL.out]; exact hi), gt_drop]
    have HN2 := Lib.hid (fun (W : World) (hW : Below w.heap.size w W) => newsB hW hbl c2)
    have L2 := Lib.hid (show (fl.drop ((K + 1) * 3)).length = (n - (K + 1)) * 3 by rw [List.length_drop, HL.out]; omega)
    clear c2
    have hnK : ¬ n = K + 1 := hl
    have z0 : ((w.alloc (.cells #[.int .i64 J, .slice (some ⟨g, 0, none⟩) n n] 29)).alloc (.cells #[.int .i64 0, .slice none 0 0] 29)).cell? ⟨w.heap.size, 0, none⟩ = some (.int .i64 J) := by simp [go_sem]
    have z1 : ((w.alloc (.cells #[.int .i64 J, .slice (some ⟨g, 0, none⟩) n n] 29)).alloc (.cells #[.int .i64 0, .slice none 0 0] 29)).cell? ⟨w.heap.size, 1, none⟩ = some (.slice (some ⟨g, 0, none⟩) n n) := by simp [go_sem]
    go_enter Try.func53, Try.ntmps53
    go_wp2_with fail
    go_region_held3 (fun w' => w'.cell? ⟨w.heap.size, 0, none⟩ = some (.int .i64 J) ∧ w'.cell? ⟨w.heap.size, 1, none⟩ = some (.slice (some ⟨g, 0, none⟩) n n)) (((try dsimp only); refine ⟨?_, ?_⟩ <;> (repeat (first | with_reducible assumption | with_reducible refine kc_drew ?_ | with_reducible refine kc_drewN ?_ | with_reducible refine kc_alloc ?_ | with_reducible refine kc_set ?_ (by first | omega | (simp; done) | (simp; omega)))))) (first | (go_at_call 47; refine (cloneDit _ g 0 K n (fl.take (K * 3)) (fun _ => ⟨by have := hbl; simp; omega, fun i hi => ((show Below w.heap.size w _ by repeat (first | exact Below.refl _ _ | assumption | apply bl_alloc | apply bl_drewN | apply Below.drew | (refine bl_set ?_ (by first | exact Nat.le_refl _ | (simp; done) | (simp; omega)) _) | (refine bl_trans ?_ (by assumption)))).cell (p := ⟨g, 0 + i, none⟩) hbl).trans (C1.out i hi)⟩) L1.out (by omega)).mono ?_; rintro e w1 ⟨v', rfl, hown', hne, hb1⟩; have R1 := Lib.hid (show w1.ownsRow (w.heap.size + 2) 38 3 v' K (ints (fl.take (K * 3))) by simpa using hown'); have R2 := Lib.hid (show Below w.heap.size w w1 by repeat (first | exact Below.refl _ _ | assumption | apply bl_alloc | apply bl_drewN | apply Below.drew | (refine bl_set ?_ (by first | exact Nat.le_refl _ | (simp; done) | (simp; omega)) _) | (refine bl_trans ?_ (by assumption)))); have kx : w1.heap[w.heap.size]? = some (.cells #[.int .i64 J, .slice (some ⟨g, 0, none⟩) n n] 29 (0, 0)) := keep_blk (hb := hb1) (h := by repeat (first | (refine blk_new ?_; (first | rfl | (simp; done) | (simp; omega))) | refine blk_drewN ?_ | refine blk_old ?_)); have kr : w1.heap[w.heap.size + 1]? = some (.cells #[.int .i64 0, .slice none 0 0] 29 (0, 0)) := keep_blk (hb := hb1) (h := by repeat (first | (refine blk_new ?_; (first | rfl | (simp; done) | (simp; omega))) | refine blk_drewN ?_ | refine blk_old ?_)); obtain ⟨x0, x1, xl⟩ := row_two kx; obtain ⟨y0, y1, yf0, yf1, yl⟩ := cells_two kr (Below.refl _ _); have hzw : w.heap.size + 2 ≤ w1.heap.size := blk_lt kr; clear hown' hb1) | (refine step_append_lies _ (by rfl) _ _ _ (by rfl) (w.heap.size + 2) 38 i0 _ 3 24 Try.underlying27 hi hz0 hz1 hz2 rfl (by decide) v' K (ints (fl.take (K * 3))) (by rfl) R1.out ⟨g, (K + 1) * 3, none⟩ (n - (K + 1)) (n - (K + 1)) (ints (fl.drop ((K + 1) * 3))) (by rfl) ((ints_len _).trans L2.out) (HN2.out _ R2.out) (ints_one3 _) (by omega) (by unfold maxLen; omega) (by omega) hzw w1.heap.size rfl ?_; intro g2 cap2 w2 hown2 hgrow2 hat2 hlt2; have hown3 : w2.ownsRow (w.heap.size + 2) 38 3 (.slice (some ⟨g2, 0, none⟩) (K + (n - (K + 1))) cap2) (n - 1) (ints (dropD fl K)) := (by have e : K + (n - (K + 1)) = n - 1 := (by omega); rw [e] at hown2 ⊢; simpa [dropD, ints] using hown2); have R3 := Lib.hid (show Below w.heap.size w w2 from app_belowB R2.out R1.out (by omega) hgrow2); have kx2 := app_keep R1.out hgrow2 kx (by omega); have kr2 := app_keep R1.out hgrow2 kr (by omega); obtain ⟨u0, u1, ul⟩ := row_two kx2; obtain ⟨v0, v1, vf0, vf1, vl⟩ := cells_two kr2 (Below.refl _ _)))
    go_wp2
    obtain ⟨A2, k2, hv, ho2⟩ := own_end3 hown3 (dropD_len HL.out hK)
    simp only [Value.slice.injEq] at hv
    obtain ⟨rfl, hlen, rfl⟩ := hv
    exact bodyPost_ret (v := .agg #[.int .i64 J, .slice (some ⟨g2, 0, none⟩) (n - 1) cap2]) (by simp [results, Try.results53, go_sem, v0, v1, hlen]) rfl ⟨_, _, rfl, ((ho2.far (.inl (by simp)) _).far (.inl (by simp)) _).wide (by simp) (by simp), by have r3 := R3.out; repeat (first | exact Below.refl _ _ | assumption | apply bl_alloc | apply bl_drewN | apply Below.drew | (refine bl_set ?_ (by first | exact Nat.le_refl _ | (simp; done) | (simp; omega)) _) | (refine bl_trans ?_ (by assumption)))⟩
end Go.Proofs.Ythgdiddgooippaa
