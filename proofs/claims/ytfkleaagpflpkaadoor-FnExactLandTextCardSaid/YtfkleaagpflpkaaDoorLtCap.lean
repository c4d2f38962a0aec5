/-
  Contracts on the laws' copies of lists and lands, with the width of the slice made. They hold for lists of at most 1048576 numbers.
-/
import Derived.Test.YtfkleaagpflpkaaDoorLand
namespace Go.Proofs.YtfkleaagpflpkaaDoor
set_option linter.unusedVariables false
open Go.RowKit
def NewIntsW (zs : List Int) (w : World) (e : Ending) (w' : World) : Prop :=
  ∃ A c, e = .returned (.slice A zs.length c) ∧ zs.length ≤ c ∧ OwnC w.heap.size w'.heap.size w' A (ints zs) ∧ Below w.heap.size w w'
def NewLandW (r c : Int) (hs : List Int) (w : World) (e : Ending) (w' : World) : Prop :=
  ∃ A k, e = .returned (.agg #[.int .i64 r, .int .i64 c, .slice A hs.length k]) ∧ hs.length ≤ k ∧ OwnC w.heap.size w'.heap.size w' A (ints hs) ∧ Below w.heap.size w w'
theorem toRel_endW {zs : List Int} {w wr : World} {cur : Array Value} {T : TypeId} {k : Nat} (hk : ¬ k < zs.length) (hg : wr.heap[w.heap.size]? = some (.cells cur T (0, 0)))
    (hc : ∀ j, j < k → cur[j]? = some (.int .i64 (gt zs j))) (hb : Below w.heap.size w wr) :
    NewIntsW zs w (.returned (.slice (some ⟨w.heap.size, 0, none⟩) zs.length zs.length)) wr := by
  refine ⟨_, _, rfl, Nat.le_refl _, fun _ => ⟨w.heap.size, cur, T, rfl, Nat.le_refl _, (Array.getElem?_eq_some_iff.1 hg).1, hg, fun i hi => ?_⟩, hb⟩
  rw [ints_len] at hi
  rw [ints_get zs i hi]
  exact hc i (by omega)
set_option maxHeartbeats 800000 in
theorem toInts_cap (w : World) (A : Option Addr) (c : Nat) (zs : List Int) (hA : RC w A (ints zs)) (hm : zs.length ≤ 1048576) :
    Calls Tryd.prog 48 #[.slice A zs.length c] w (NewIntsW zs w) := by
  obtain ⟨i0, hi, hz0, hz1, hz2⟩ := info_parts infoInt
  have hmk : ∀ W : World, (Instr.makeSlice 29 (.int .i64 (zs.length : Int)) (.int .i64 (zs.length : Int))).run Tryd.prog W =
      .ok (.slice (some ⟨W.heap.size, 0, none⟩) zs.length zs.length) (W.alloc (.cells (madeCells #[.int .i64 0] zs.length) 2)) := fun W => by
    have h := run_make_full_row (P := Tryd.prog) 29 2 i0 (.int .i64 0) Tryd.underlying29 hi hz0 zs.length (by rw [hz2]; omega) (by omega) W
    simpa [hz1, Value.cells] using h
  clear hi hz0 hz1 hz2
  have hms : (madeCells #[Value.int .i64 0] zs.length).size = zs.length := by simp [madeCells]
  have HA := Lib.hid hA
  have HMS := Lib.hid hms
  clear hA hms
  go_enter Tryd.func48, Tryd.ntmps48
  go_wp2
  go_loopg [4] zs.length (fun m i wr => ToRel zs w m i wr)
  case atStart => exact toRel_start zs w _ _ HMS.out
  case round =>
    obtain ⟨k, hk, hgk, rfl, ⟨cur, T, hg, hs, hc⟩, hb⟩ := hrel
    by_cases hlt : k < zs.length
    · have HR := Lib.hid (toRel_step hlt hg hs hc hb)
      obtain ⟨b, off, rfl, hbl, hcell⟩ := HA.out (by rw [ints_len]; omega)
      have h1 : wr.cell? ⟨b, off + k, none⟩ = some (.int .i64 (gt zs k)) := by
        rw [hb.cell (p := ⟨b, off + k, none⟩) hbl, hcell k (by rw [ints_len]; exact hlt), ints_get zs k hlt]
      obtain ⟨u0, h2⟩ : ∃ u0, wr.cell? ⟨w.heap.size, k, none⟩ = some u0 := ⟨_, (cell_of_row wr _ k cur T (0, 0) hg).trans (Array.getElem?_eq_getElem (by omega))⟩
      have h3 : wr.frozen? ⟨w.heap.size, k, none⟩ = false := frozen_of_row wr _ k cur T hg
      have HGK := Lib.hid hgk
      clear hcell hg hs hc hb hmk hgk
      go_wp2
      go_roundg (zs.length - (k + 1))
      case measure => rw [HGK.out]; omega
      case rel => exact HR.out
    · have HE := Lib.hid (toRel_endW hlt hg hc hb)
      have HGK := Lib.hid hgk
      clear hg hs hc hb hmk hgk
      go_wp2
      go_ret
      exact HE.out
set_option maxHeartbeats 800000 in
theorem toLand_cap (w : World) (r c : Int) (A : Option Addr) (k : Nat) (hs : List Int) (hA : RC w A (ints hs)) (hm : hs.length ≤ 1048576) :
    Calls Tryd.prog 31 #[.agg #[.int .i64 r, .int .i64 c, .slice A hs.length k]] w (NewLandW r c hs w) := by
  have HA := Lib.hid hA
  clear hA
  go_enter Tryd.func31, Tryd.ntmps31
  go_wp2_with (go_at_call 48; refine (toInts_cap _ _ _ _ (HA.out.below (by repeat (first | exact Below.refl _ _ | assumption | apply bl_alloc | apply bl_drewN | apply Below.drew | (refine bl_set ?_ (by first | exact Nat.le_refl _ | (simp; done) | (simp; omega)) _) | (refine bl_trans ?_ (by assumption))))) hm).mono ?_; rintro e w1 ⟨A1, k1, rfl, hk1, ho, hb1⟩; obtain ⟨x0, x1, x2, f0, f1, f2, hl3⟩ := cells_three (g := w.heap.size + 2) (x := .int .i64 r) (y := .int .i64 c) (z := .slice none 0 0) (t := 53) (by repeat (first | (refine blk_new ?_; (first | rfl | (simp; done) | (simp; omega))) | refine blk_drewN ?_ | refine blk_old ?_)) hb1; obtain ⟨y0, y1, y2, e0, e1, e2, hl2⟩ := cells_three (g := w.heap.size + 1) (x := .int .i64 0) (y := .int .i64 0) (z := .slice none 0 0) (t := 53) (by repeat (first | (refine blk_new ?_; (first | rfl | (simp; done) | (simp; omega))) | refine blk_drewN ?_ | refine blk_old ?_)) hb1)
  exact bodyPost_ret (v := .agg #[.int .i64 r, .int .i64 c, .slice A1 hs.length k1]) (by simp [results, Tryd.results31, go_sem, *]) rfl ⟨A1, k1, rfl, hk1, ((((ho.far (.inl (by simp)) _).far (.inl (by simp)) _).far (.inl (by simp)) _).far (.inl (by simp)) _).wide (by simp; omega) (by simp), by repeat (first | exact Below.refl _ _ | assumption | apply bl_alloc | apply bl_drewN | apply Below.drew | (refine bl_set ?_ (by first | exact Nat.le_refl _ | (simp; done) | (simp; omega)) _) | (refine bl_trans ?_ (by assumption)))⟩
end Go.Proofs.YtfkleaagpflpkaaDoor
