/-
  Contracts on nets: copies, comparisons and marks of the statements. A net is a number of junctions and a flat list, three numbers a ditch; they hold for at most 1048576 ditches.
-/
import Derived.Test.YtcjfdfjimcapkaaDoorOnly
import Derived.Test.YtcjfdfjimcapkaaDoorNetPlain
import Derived.StillTailTactics
namespace Go.Proofs.YtcjfdfjimcapkaaDoor
set_option linter.unusedVariables false
open Go.RowKit

/-- the three cells of a ditch -/
theorem dit_cells {w wr : World} {b off n k : Nat} {fl : List Int} (hbl : b < w.heap.size) (hcell : ∀ i, i < (ints fl).length → w.cell? ⟨b, off + i, none⟩ = (ints fl)[i]?) (lf : fl.length = n * 3) (hk : k < n) (hb : Below w.heap.size w wr) :
    wr.cell? ⟨b, off + k * 3, none⟩ = some (.int .i64 (dF fl k)) ∧ wr.cell? ⟨b, off + k * 3 + 1, none⟩ = some (.int .i64 (dT fl k)) ∧ wr.cell? ⟨b, off + k * 3 + 2, none⟩ = some (.int .i64 (dW fl k)) := by
  have q : ∀ j, k * 3 + j < n * 3 → wr.cell? ⟨b, off + (k * 3 + j), none⟩ = some (.int .i64 (gt fl (k * 3 + j))) := fun j hj => by
    have h := (hb.cell (p := ⟨b, off + (k * 3 + j), none⟩) hbl).trans (hcell (k * 3 + j) (by rw [ints_len, lf]; exact hj))
    rwa [ints_get fl _ (by rw [lf]; exact hj)] at h
  exact ⟨q 0 (by omega), q 1 (by omega), q 2 (by omega)⟩
/-- a block of three cells a ditch, one ditch stored -/
theorem dit_store {w : World} {g n k : Nat} {cur : Array Value} {T : TypeId} {fl : List Int} {a b f : Int} (hg : w.heap[g]? = some (.cells cur T (0, 0))) (hs : cur.size = n * 3) (hc : ∀ j, j < k * 3 → cur[j]? = some (.int .i64 (gt fl j))) (hk : k < n)
    (ha : a = dF fl k) (hb : b = dT fl k) (hf : f = dW fl k) :
    ∃ cur' T', (((w.setCell ⟨g, k * 3, none⟩ (.int .i64 a)).setCell ⟨g, k * 3 + 1, none⟩ (.int .i64 b)).setCell ⟨g, k * 3 + 2, none⟩ (.int .i64 f)).heap[g]? = some (.cells cur' T' (0, 0)) ∧ cur'.size = n * 3 ∧ ∀ j, j < (k + 1) * 3 → cur'[j]? = some (.int .i64 (gt fl j)) := by
  subst ha
  subst hb
  subst hf
  have h1 := heap_setCell_same w g (k * 3) cur T (.int .i64 (dF fl k)) hg
  have h2 := heap_setCell_same _ g (k * 3 + 1) _ T (.int .i64 (dT fl k)) h1
  have h3 := heap_setCell_same _ g (k * 3 + 2) _ T (.int .i64 (dW fl k)) h2
  refine ⟨_, _, h3, by simp [hs], fun j hj => ?_⟩
  by_cases e2 : j = k * 3 + 2
  · subst e2
    rw [Array.getElem?_setIfInBounds_self_of_lt (by simp [hs]; omega)]
    rfl
  · rw [Array.getElem?_setIfInBounds_ne (by omega)]
    by_cases e1 : j = k * 3 + 1
    · subst e1
      rw [Array.getElem?_setIfInBounds_self_of_lt (by simp [hs]; omega)]
      rfl
    · rw [Array.getElem?_setIfInBounds_ne (by omega)]
      by_cases e0 : j = k * 3
      · subst e0
        rw [Array.getElem?_setIfInBounds_self_of_lt (by rw [hs]; omega)]
        rfl
      · rw [Array.getElem?_setIfInBounds_ne (by omega)]
        exact hc j (by omega)
theorem infoDitch : (Tryd.prog.info? 55).map (fun i => (i.zero, i.size, i.bytes)) = some (some (.agg #[.int .i64 0, .int .i64 0, .int .i64 0]), 3, 24) := by kernel_rfl

set_option maxHeartbeats 800000 in
theorem eqDitch_any (a b f : Int) (w : World) : Calls Tryd.prog 56 #[.agg #[.int .i64 a, .int .i64 b, .int .i64 f], .agg #[.int .i64 a, .int .i64 b, .int .i64 f]] w fun e w' => e = .returned (.bool true) ∧ Below w.heap.size w w' := by
  go_enter Tryd.func56, Tryd.ntmps56
  go_wp2
  go_ret
  exact ⟨rfl, by repeat (first | exact Below.refl _ _ | assumption | apply bl_alloc | apply bl_drewN | apply Below.drew | (refine bl_set ?_ (by first | exact Nat.le_refl _ | (simp; done) | (simp; omega)) _) | (refine bl_trans ?_ (by assumption)))⟩
set_option maxRecDepth 100000 in
set_option maxHeartbeats 800000 in
theorem eqDitches (w : World) (A A' : Option Addr) (n c c' : Nat) (fl : List Int) (hA : RC w A (ints fl)) (hA' : RC w A' (ints fl)) (lf : fl.length = n * 3) (hm : n ≤ 1048576) :
    Calls Tryd.prog 34 #[.slice A n c, .slice A' n c'] w fun e w' => e = .returned (.bool true) ∧ Below w.heap.size w w' := by
  have HA := Lib.hid hA
  have HB := Lib.hid hA'
  have HL := Lib.hid lf
  clear hA hA' lf
  go_enter Tryd.func34, Tryd.ntmps34
  go_wp2
  go_loopg [5] n (fun m i wr => ∃ k, k ≤ n ∧ m = n - k ∧ i = .int .i64 (k : Int) ∧ Below w.heap.size w wr)
  case atStart => exact ⟨0, Nat.zero_le _, by omega, rfl, by repeat (first | exact Below.refl _ _ | assumption | apply bl_alloc | apply bl_drewN | apply Below.drew | (refine bl_set ?_ (by first | exact Nat.le_refl _ | (simp; done) | (simp; omega)) _) | (refine bl_trans ?_ (by assumption)))⟩
  case round =>
    obtain ⟨k, hk, hgk, rfl, hb⟩ := hrel
    have HGK := Lib.hid hgk
    clear hgk
    by_cases hlt : k < n
    · obtain ⟨b, off, rfl, hbl, hcell⟩ := HA.out (by rw [ints_len, HL.out]; omega)
      obtain ⟨b', off', rfl, hbl', hcell'⟩ := HB.out (by rw [ints_len, HL.out]; omega)
      obtain ⟨q0, q1, q2⟩ := dit_cells hbl hcell HL.out hlt hb
      obtain ⟨r0, r1, r2⟩ := dit_cells hbl' hcell' HL.out hlt hb
      clear hcell hcell'
      go_wp2
      go_still_tail 8, (by kernel_rfl)
      change wpList _ _ _ _ _ wr.drew
      generalize hwd : wr.drew = wd
      have hbd : Below w.heap.size w wd := by rw [← hwd]; exact hb.drew
      clear hwd
      go_wp2_with (go_at_call 56; refine (eqDitch_any _ _ _ _).mono ?_; rintro e w1 ⟨rfl, hb1⟩)
      go_roundg (n - (k + 1))
      case measure => rw [HGK.out]; omega
      case rel => exact ⟨k + 1, by omega, rfl, by go_num, by repeat (first | exact Below.refl _ _ | assumption | apply bl_alloc | apply bl_drewN | apply Below.drew | (refine bl_set ?_ (by first | exact Nat.le_refl _ | (simp; done) | (simp; omega)) _) | (refine bl_trans ?_ (by assumption)))⟩
    · go_wp2
      go_ret
      exact ⟨rfl, hb⟩
/-- the first j cells of a block hold the numbers from 'start' on -/
structure MK (N : Nat) (start : Int) (g B E : Nat) (w wr : World) (j : Nat) : Prop where
  only : Only N (some ⟨g, 0, none⟩) w wr
  lo : B ≤ g
  hi : g < E
  cells : ∃ cur T, wr.heap[g]? = some (.cells cur T (0, 0)) ∧ N ≤ cur.size ∧ ∀ i, i < j → cur[i]? = some (.int .i64 (start + (i : Int)))
theorem MK.start {N : Nat} {start : Int} {A : Option Addr} {B E : Nat} {w : World} {cs : List Value} (h : OwnC B E w A cs) (hn : cs.length = N) (h0 : 0 < N) : ∃ g, A = some ⟨g, 0, none⟩ ∧ MK N start g B E w w 0 := by
  obtain ⟨g, cur, T, hA, h1, h2, hg, hc⟩ := h (by omega)
  refine ⟨g, hA, Only.refl _ _ _, h1, h2, cur, T, hg, ?_, fun j hj => absurd hj (by omega)⟩
  rcases Nat.lt_or_ge cur.size N with hlt | hge
  · have := hc cur.size (by omega)
    rw [Array.getElem?_eq_none (Nat.le_refl _), List.getElem?_eq_getElem (by omega)] at this
    cases this
  · exact hge
theorem MK.step {N : Nat} {start x : Int} {g B E j : Nat} {w wr : World} (h : MK N start g B E w wr j) (hj : j < N) (hx : x = start + (j : Int)) : MK N start g B E w (wr.setCell ⟨g, j, none⟩ (.int .i64 x)) (j + 1) := by
  subst hx
  obtain ⟨ho, h1, h2, cur, T, hg, hs, hc⟩ := h
  refine ⟨⟨ho.os, ho.tape, ho.output, by simpa using ho.size, fun i hi => ?_⟩, h1, h2, _, T, heap_setCell_same wr _ j cur T _ hg, by simpa using hs, fun i hi => ?_⟩
  · rw [heap_setCell_other wr _ i _ (hi (by omega) g rfl)]
    exact ho.block i hi
  · by_cases e : i = j
    · subst e; simp [show i < cur.size from by omega]
    · rw [Array.getElem?_setIfInBounds_ne (by omega)]
      exact hc i (by omega)
theorem MK.has {N : Nat} {start : Int} {g B E j i : Nat} {w wr : World} (h : MK N start g B E w wr j) (hi : i < N) : (∃ u, wr.cell? ⟨g, i, none⟩ = some u) ∧ wr.frozen? ⟨g, i, none⟩ = false := by
  obtain ⟨_, _, _, cur, T, hg, hs, _⟩ := h
  exact ⟨⟨_, (cell_of_row wr _ i cur T (0, 0) hg).trans (Array.getElem?_eq_getElem (by omega))⟩, frozen_of_row wr _ i cur T hg⟩
theorem MK.fin {N : Nat} {start : Int} {g B E : Nat} {w wr : World} (h : MK N start g B E w wr N) : OwnC B E wr (some ⟨g, 0, none⟩) (ints (marks start N)) := fun h0 => by
  obtain ⟨_, h1, h2, cur, T, hg, _, hc⟩ := h
  refine ⟨g, cur, T, rfl, h1, h2, hg, fun i hi => ?_⟩
  rw [ints_len, marks_len] at hi
  rw [ints_get _ _ (by rw [marks_len]; exact hi), gt_marks _ _ _ hi]
  exact hc i hi

set_option maxHeartbeats 1600000 in
theorem markDitches (w : World) (A : Option Addr) (n c B E : Nat) (start : Int) (cs : List Value) (hA : OwnC B E w A cs) (hn : cs.length = n * 3) (hm : n ≤ 1048576) (hs : 0 ≤ start) (hs' : start ≤ 1099511627776) :
    Calls Tryd.prog 35 #[.slice A n c, .int .i64 start] w fun e w' => e = .returned (.int .i64 (start + (n : Int) * 3)) ∧ Only (n * 3) A w w' ∧ OwnC B E w' A (ints (marks start (n * 3))) := by
  have HA := Lib.hid (fun h0 => MK.start (start := start) hA hn h0)
  clear hA hn
  go_enter Tryd.func35, Tryd.ntmps35
  go_wp2
  go_loopg [1, 5] n (fun m a i wr => ∃ k, k ≤ n ∧ m = n - k ∧ i = .int .i64 (k : Int) ∧ a = .int .i64 (start + (k : Int) * 3) ∧ (0 < n * 3 → ∃ g, A = some ⟨g, 0, none⟩ ∧ MK (n * 3) start g B E w wr (k * 3)) ∧ (¬ 0 < n * 3 → w = wr))
  case atStart => exact ⟨0, Nat.zero_le _, by omega, rfl, by go_num, HA.out, fun _ => rfl⟩
  case round =>
    clear HA
    obtain ⟨k, hk, hgk, rfl, rfl, hM, hz⟩ := hrel
    have HGK := Lib.hid hgk
    clear hgk
    by_cases hlt : k < n
    · obtain ⟨g, rfl, h⟩ := hM (by omega)
      have HR := Lib.hid (((h.step (x := start + (k : Int) * 3) (by omega) (by push_cast; omega)).step (x := start + (k : Int) * 3 + 1) (by omega) (by push_cast; omega)).step (x := start + (k : Int) * 3 + 1 + 1) (by omega) (by push_cast; omega))
      obtain ⟨⟨u0, g0⟩, f0⟩ := h.has (i := k * 3) (by omega)
      obtain ⟨⟨u1, g1⟩, f1⟩ := h.has (i := k * 3 + 1) (by omega)
      obtain ⟨⟨u2, g2⟩, f2⟩ := h.has (i := k * 3 + 2) (by omega)
      clear hM hz h
      go_wp2
      go_roundg (n - (k + 1))
      case measure => rw [HGK.out]; omega
      case rel => exact ⟨k + 1, by omega, rfl, by go_num, by go_num, fun _ => ⟨g, rfl, by rw [Nat.add_mul]; exact HR.out⟩, fun h0 => absurd h0 (by omega)⟩
    · obtain rfl : k = n := by omega
      have HM := Lib.hid hM
      have HZ := Lib.hid hz
      clear hM hz
      go_wp2
      go_ret
      by_cases h0 : 0 < k * 3
      · obtain ⟨g, rfl, h⟩ := HM.out h0
        exact ⟨rfl, h.only, h.fin⟩
      · obtain rfl := HZ.out h0
        exact ⟨rfl, Only.refl _ _ _, fun h1 => absurd h1 (by rw [ints_len, marks_len]; exact h0)⟩
set_option maxHeartbeats 1600000 in
theorem heldDitches (w : World) (A : Option Addr) (n c : Nat) (start : Int) (hA : RC w A (ints (marks start (n * 3)))) (hm : n ≤ 1048576) (hs : 0 ≤ start) (hs' : start ≤ 1099511627776) :
    Calls Tryd.prog 36 #[.slice A n c, .int .i64 start] w fun e w' => e = .returned (.int .i64 (start + (n : Int) * 3)) ∧ w = w' := by
  have HA := Lib.hid hA
  clear hA
  go_enter Tryd.func36, Tryd.ntmps36
  go_wp2
  go_loopg [1, 5] n (fun m a i wr => ∃ k, k ≤ n ∧ m = n - k ∧ i = .int .i64 (k : Int) ∧ a = .int .i64 (start + (k : Int) * 3) ∧ wr = w)
  case atStart => exact ⟨0, Nat.zero_le _, by omega, rfl, by go_num, rfl⟩
  case round =>
    obtain ⟨k, hk, hgk, rfl, rfl, rfl⟩ := hrel
    have HGK := Lib.hid hgk
    clear hgk
    by_cases hlt : k < n
    · obtain ⟨b, off, rfl, hbl, hcell⟩ := HA.out (by rw [ints_len, marks_len]; omega)
      obtain ⟨q0, q1, q2⟩ := dit_cells hbl hcell (marks_len _ _) hlt (Below.refl _ _)
      simp only [dF, dT, dW, gt_marks _ _ _ (show k * 3 < n * 3 by omega), gt_marks _ _ _ (show k * 3 + 1 < n * 3 by omega), gt_marks _ _ _ (show k * 3 + 2 < n * 3 by omega)] at q0 q1 q2
      rw [show (start + ((k * 3 : Nat) : Int)) = start + (k : Int) * 3 by push_cast; omega] at q0
      rw [show (start + ((k * 3 + 1 : Nat) : Int)) = start + (k : Int) * 3 + 1 by push_cast; omega] at q1
      rw [show (start + ((k * 3 + 2 : Nat) : Int)) = start + (k : Int) * 3 + 1 + 1 by push_cast; omega] at q2
      clear hcell
      go_wp2
      go_roundg (n - (k + 1))
      case measure => rw [HGK.out]; omega
      case rel => exact ⟨k + 1, by omega, rfl, by go_num, by go_num, rfl⟩
    · obtain rfl : k = n := by omega
      go_wp2
      go_ret
      exact ⟨rfl, rfl⟩
/-- a call that makes a new net; with a code -/
def NewNet (J : Int) (n : Nat) (fl : List Int) (w : World) (e : Ending) (w' : World) : Prop :=
  ∃ A k, e = .returned (.agg #[.int .i64 J, .slice A n k]) ∧ OwnC w.heap.size w'.heap.size w' A (ints fl) ∧ Below w.heap.size w w' ∧ ∃ g, A = some ⟨g, 0, none⟩ ∧ n = k
def NewNetC (J : Int) (n : Nat) (fl : List Int) (code : Int) (w : World) (e : Ending) (w' : World) : Prop :=
  ∃ A k, e = .returned (.tuple #[.agg #[.int .i64 J, .slice A n k], .int .i64 code]) ∧ OwnC w.heap.size w'.heap.size w' A (ints fl) ∧ Below w.heap.size w w'

set_option maxHeartbeats 800000 in
theorem eqNet_any (w : World) (J : Int) (A A' : Option Addr) (n k k' : Nat) (fl : List Int) (hA : RC w A (ints fl)) (hA' : RC w A' (ints fl)) (lf : fl.length = n * 3) (hm : n ≤ 1048576) :
    Calls Tryd.prog 13 #[.agg #[.int .i64 J, .slice A n k], .agg #[.int .i64 J, .slice A' n k']] w fun e w' => e = .returned (.bool true) ∧ Below w.heap.size w w' := by
  have HA := Lib.hid hA
  have HB := Lib.hid hA'
  have HL := Lib.hid lf
  clear hA hA' lf
  go_enter Tryd.func13, Tryd.ntmps13
  go_wp2_with (go_at_call 34; refine (eqDitches _ _ _ _ _ _ _ (HA.out.below (by repeat (first | exact Below.refl _ _ | assumption | apply bl_alloc | apply bl_drewN | apply Below.drew | (refine bl_set ?_ (by first | exact Nat.le_refl _ | (simp; done) | (simp; omega)) _) | (refine bl_trans ?_ (by assumption))))) (HB.out.below (by repeat (first | exact Below.refl _ _ | assumption | apply bl_alloc | apply bl_drewN | apply Below.drew | (refine bl_set ?_ (by first | exact Nat.le_refl _ | (simp; done) | (simp; omega)) _) | (refine bl_trans ?_ (by assumption))))) HL.out hm).mono ?_; rintro e w1 ⟨rfl, hb1⟩)
  go_ret
  exact ⟨rfl, by repeat (first | exact Below.refl _ _ | assumption | apply bl_alloc | apply bl_drewN | apply Below.drew | (refine bl_set ?_ (by first | exact Nat.le_refl _ | (simp; done) | (simp; omega)) _) | (refine bl_trans ?_ (by assumption)))⟩
set_option maxHeartbeats 800000 in
theorem markNet_any (w : World) (J : Int) (A : Option Addr) (n k B E : Nat) (start : Int) (cs : List Value) (hA : OwnC B E w A cs) (hn : cs.length = n * 3) (hm : n ≤ 1048576) (hs0 : 0 ≤ start) (hs' : start ≤ 1099511627776) :
    Calls Tryd.prog 14 #[.agg #[.int .i64 J, .slice A n k], .int .i64 start] w fun e w' => e = .returned (.int .i64 (start + (n : Int) * 3)) ∧ OnlyR B E w w' ∧ OwnC B E w' A (ints (marks start (n * 3))) := by
  have HA := Lib.hid hA
  have HN := Lib.hid hn
  clear hA hn
  go_enter Tryd.func14, Tryd.ntmps14
  go_wp2_with (go_at_call 35; refine (markDitches _ _ _ _ _ _ _ _ (HA.out.alloc _) HN.out hm hs0 hs').mono ?_; rintro e w1 ⟨rfl, q, m⟩)
  have HQ := Lib.hid (show OnlyR B E w w1 from OnlyR.pre (by repeat (first | exact Below.refl _ _ | assumption | apply bl_alloc | apply bl_drewN | apply Below.drew | (refine bl_set ?_ (by first | exact Nat.le_refl _ | (simp; done) | (simp; omega)) _) | (refine bl_trans ?_ (by assumption)))) (q.r (HA.out.alloc _) (Nat.le_of_eq HN.out.symm)))
  go_ret
  exact ⟨rfl, HQ.out, m⟩
set_option maxHeartbeats 800000 in
theorem heldNet_any (w : World) (J : Int) (A : Option Addr) (n k : Nat) (start : Int) (hA : RC w A (ints (marks start (n * 3)))) (hm : n ≤ 1048576) (hs0 : 0 ≤ start) (hs' : start ≤ 1099511627776) :
    Calls Tryd.prog 15 #[.agg #[.int .i64 J, .slice A n k], .int .i64 start] w fun e w' => e = .returned (.int .i64 (start + (n : Int) * 3)) ∧ Below w.heap.size w w' := by
  have HA := Lib.hid hA
  clear hA
  go_enter Tryd.func15, Tryd.ntmps15
  go_wp2_with (go_at_call 36; refine (heldDitches _ _ _ _ _ (HA.out.below (by repeat (first | exact Below.refl _ _ | assumption | apply bl_alloc | apply bl_drewN | apply Below.drew | (refine bl_set ?_ (by first | exact Nat.le_refl _ | (simp; done) | (simp; omega)) _) | (refine bl_trans ?_ (by assumption))))) hm hs0 hs').mono ?_; rintro e w' ⟨rfl, rfl⟩)
  go_ret
  exact ⟨rfl, by repeat (first | exact Below.refl _ _ | assumption | apply bl_alloc | apply bl_drewN | apply Below.drew | (refine bl_set ?_ (by first | exact Nat.le_refl _ | (simp; done) | (simp; omega)) _) | (refine bl_trans ?_ (by assumption)))⟩
end Go.Proofs.YtcjfdfjimcapkaaDoor
