/-
  Contract on the library's stable sort of at most 60 numbers that stand in their own order at first: 60.
-/
import Derived.Test.YtddmgjcepkimbaaStab
namespace Go.Proofs.Ytddmgjcepkimbaa
set_option linter.unusedVariables false
set_option linter.unusedSimpArgs false
open Go.RowKit

open Go.Shelf Go.Lib Go.Sort
set_option maxHeartbeats 6400000 in
set_option maxRecDepth 100000 in
theorem stab_f {enc : Nat → Value} {g : Nat} {lb : Array Value} {sf : Nat} {sb : Array Value} {blk off n : Nat} {lt L : Nat → Nat → Bool} {d : Array Nat} (w : World) (hblk : blk < w.heap.size) (E : StEnv enc g lb sf sb blk off n lt L d (w.alloc (.cells #[.func (.func g) #[] lb, .func (.func sf) #[] sb] 47))) (hr : Raw 0 n d) (h1 : 60 ≤ n) (h2 : n ≤ 60) :
    Calls Try.prog 21 #[.agg #[.func (.func g) #[] lb, .func (.func sf) #[] sb], .int .i64 (n : Int)] w fun e w' => e = .returned (.tuple #[]) ∧ ∃ d', SW enc w blk off d' w' ∧ PermIn 0 n d d' ∧ Good L 0 n d' := by
  have HR0 := Lib.hid hr
  have S0 := Lib.hid (SW.start E.hH)
  have P0 := Lib.hid (permIn_refl d 0 n)
  have hbn : w.heap.size ≠ blk := by omega
  clear hr
  go_enter Try.func21, Try.ntmps21
  go_wp2
  refine wp_loop_rounds 4 ?_
  rw [rounds_succ]
  go_wp2_with (go_at_call 32; refine (ins_step E S0.out P0.out 0 20 (by omega) (by omega) (HR0.out.part (by omega) (by omega))).mono ?_; rintro e w1 ⟨rfl, d1, S1, P1, Q1, N1⟩; have c0_1 : w1.cell? ⟨w.heap.size, 0, none⟩ = some (.func (.func g) #[] lb) := (sw_cell S1.out (by simp) hbn).trans (by simp); have c1_1 : w1.cell? ⟨w.heap.size, 1, none⟩ = some (.func (.func sf) #[] sb) := (sw_cell S1.out (by simp) hbn).trans (by simp))
  have R1 := Lib.hid ((HR0.out.part (lo := 20) (hi := n) (by omega) (by omega)).keep Q1.out (by omega))
  rw [rounds_succ]
  go_wp2_with (go_at_call 32; refine (ins_step E S1.out P1.out 20 40 (by omega) (by omega) (R1.out.part (by omega) (by omega))).mono ?_; rintro e w2 ⟨rfl, d2, S2, P2, Q2, N2⟩; have c0_2 : w2.cell? ⟨w.heap.size, 0, none⟩ = some (.func (.func g) #[] lb) := (sw_cell S2.out (by simp) hbn).trans (by simp); have c1_2 : w2.cell? ⟨w.heap.size, 1, none⟩ = some (.func (.func sf) #[] sb) := (sw_cell S2.out (by simp) hbn).trans (by simp))
  have G2_0_20 := Lib.hid (N1.out.keep Q2.out (by omega))
  have R2 := Lib.hid ((R1.out.part (lo := 40) (hi := n) (by omega) (by omega)).keep Q2.out (by omega))
  rw [rounds_succ]
  go_wp2_with (go_at_call 32; refine (ins_step E S2.out P2.out 40 60 (by omega) (by omega) (R2.out.part (by omega) (by omega))).mono ?_; rintro e w3 ⟨rfl, d3, S3, P3, Q3, N3⟩; have c0_3 : w3.cell? ⟨w.heap.size, 0, none⟩ = some (.func (.func g) #[] lb) := (sw_cell S3.out (by simp) hbn).trans (by simp); have c1_3 : w3.cell? ⟨w.heap.size, 1, none⟩ = some (.func (.func sf) #[] sb) := (sw_cell S3.out (by simp) hbn).trans (by simp))
  have G3_0_20 := Lib.hid (G2_0_20.out.keep Q3.out (by omega))
  have G3_20_40 := Lib.hid (N2.out.keep Q3.out (by omega))
  have R3 := Lib.hid ((R2.out.part (lo := 60) (hi := n) (by omega) (by omega)).keep Q3.out (by omega))
  rw [rounds_succ]
  go_wp2_with (go_at_call 32; refine (ins_step E S3.out P3.out 60 n (by omega) (by omega) (R3.out.part (by omega) (by omega))).mono ?_; rintro e w4 ⟨rfl, d4, S4, P4, Q4, N4⟩; have c0_4 : w4.cell? ⟨w.heap.size, 0, none⟩ = some (.func (.func g) #[] lb) := (sw_cell S4.out (by simp) hbn).trans (by simp); have c1_4 : w4.cell? ⟨w.heap.size, 1, none⟩ = some (.func (.func sf) #[] sb) := (sw_cell S4.out (by simp) hbn).trans (by simp))
  have G4_0_20 := Lib.hid (G3_0_20.out.keep Q4.out (by omega))
  have G4_20_40 := Lib.hid (G3_20_40.out.keep Q4.out (by omega))
  have G4_40_60 := Lib.hid (N3.out.keep Q4.out (by omega))
  have R4 := Lib.hid ((R3.out.part (lo := n) (hi := n) (by omega) (by omega)).keep Q4.out (by omega))
  refine wp_loop_rounds 3 ?_
  rw [rounds_succ]
  go_wp2
  refine wp_loop_rounds 2 ?_
  rw [rounds_succ]
  go_wp2_with (go_at_call 33; refine (sym_step E S4.out P4.out 0 20 40 (by omega) (by omega) (by omega) G4_0_20.out G4_20_40.out).mono ?_; rintro e w5 ⟨rfl, d5, S5, P5, Q5, N5⟩; have c0_5 : w5.cell? ⟨w.heap.size, 0, none⟩ = some (.func (.func g) #[] lb) := (sw_cell S5.out (by simp) hbn).trans (by simp); have c1_5 : w5.cell? ⟨w.heap.size, 1, none⟩ = some (.func (.func sf) #[] sb) := (sw_cell S5.out (by simp) hbn).trans (by simp))
  have G5_40_60 := Lib.hid (G4_40_60.out.keep Q5.out (by omega))
  have G5_60_n := Lib.hid (N4.out.keep Q5.out (by omega))
  rw [rounds_succ]
  go_wp2
  rw [rounds_succ]
  go_wp2
  refine wp_loop_rounds 1 ?_
  rw [rounds_succ]
  have GL := Lib.hid (show Good L 40 n d5 by have e : n = 60 := (by omega); subst e; exact G5_40_60.out)
  go_wp2_with (go_at_call 33; refine (sym_step E S5.out P5.out 0 40 n (by omega) (by omega) (by omega) N5.out GL.out).mono ?_; rintro e w6 ⟨rfl, d6, S6, P6, Q6, N6⟩; have c0_6 : w6.cell? ⟨w.heap.size, 0, none⟩ = some (.func (.func g) #[] lb) := (sw_cell S6.out (by simp) hbn).trans (by simp); have c1_6 : w6.cell? ⟨w.heap.size, 1, none⟩ = some (.func (.func sf) #[] sb) := (sw_cell S6.out (by simp) hbn).trans (by simp))
  rw [rounds_succ]
  go_wp2
  go_end0
  exact ⟨rfl, _, sw_unalloc S6.out hblk, P6.out, N6.out⟩
end Go.Proofs.Ytddmgjcepkimbaa
