/-
  Contract on the library's stable sort of at most 60 numbers that stand in their own order at first.
-/
import Derived.Test.YtddmgjcepkimbaaMrgS
namespace Go.Proofs.Ytddmgjcepkimbaa
set_option linter.unusedVariables false
set_option linter.unusedSimpArgs false
open Go.RowKit

open Go.Shelf Go.Lib Go.Sort
/-- places that hold themselves; places that hold one another, in order -/
def Raw (a b : Nat) (d : Array Nat) : Prop := ∀ k, a ≤ k → k < b → d[k]! = k
def Rng (a b : Nat) (d : Array Nat) : Prop := ∀ k, a ≤ k → k < b → a ≤ d[k]! ∧ d[k]! < b
structure Good (L : Nat → Nat → Bool) (a b : Nat) (d : Array Nat) : Prop where
  s : SortedIn L a b d
  r : Rng a b d
theorem Raw.keep {a b lo hi : Nat} {d e : Array Nat} (h : Raw a b d) (hp : PermIn lo hi d e) (hd : b ≤ lo ∨ hi ≤ a) : Raw a b e := fun k h1 h2 => by rw [hp.2.1 k (by omega)]; exact h k h1 h2
theorem Raw.part {a b lo hi : Nat} {d : Array Nat} (h : Raw a b d) (h1 : a ≤ lo) (h2 : hi ≤ b) : Raw lo hi d := fun k h3 h4 => h k (by omega) (by omega)
theorem Raw.rng {a b : Nat} {d : Array Nat} (h : Raw a b d) : Rng a b d := fun k h1 h2 => by rw [h k h1 h2]; exact ⟨h1, h2⟩
theorem Rng.perm {a b : Nat} {d e : Array Nat} (h : Rng a b d) (hb : b ≤ d.size) (hp : PermIn a b d e) : Rng a b e := fun k h1 h2 => permIn_all d e a b (fun x => a ≤ x ∧ x < b) hb hp h k h1 h2
theorem Good.keep {L : Nat → Nat → Bool} {a b lo hi : Nat} {d e : Array Nat} (h : Good L a b d) (hp : PermIn lo hi d e) (hd : b ≤ lo ∨ hi ≤ a) : Good L a b e :=
  ⟨sorted_keep h.s hp hd, fun k h1 h2 => by rw [hp.2.1 k (by omega)]; exact h.r k h1 h2⟩
theorem Good.rng {L : Nat → Nat → Bool} {a m b : Nat} {d : Array Nat} (h1 : Good L a m d) (h2 : Good L m b d) (ham : a ≤ m) (hmb : m ≤ b) : Rng a b d := fun k h3 h4 => by
  by_cases h : k < m
  · have := h1.r k h3 h; omega
  · have := h2.r k (by omega) h4; omega
/-- what the steps lean on -/
structure StEnv (enc : Nat → Value) (g : Nat) (lb : Array Value) (sf : Nat) (sb : Array Value) (blk off D : Nat) (lt L : Nat → Nat → Bool) (d : Array Nat) (w1 : World) : Prop where
  hS : SWO L
  eg : ∀ args w, (callFunc g args).run Try.prog w = .ok (.enter g args) w
  hD : D < 4611686018427387904
  hsw : SwapSwaps Try.prog sf sb enc blk off D
  hb1 : blk < w1.heap.size
  hH : Holds enc w1 blk off d
  hL : LessReads Try.prog g lb enc lt blk off D w1
  hd : d.size = D
  hq : ∀ x y : Nat, y < x → lt x y = L x y
section
variable {enc : Nat → Value} {g : Nat} {lb : Array Value} {sf : Nat} {sb : Array Value} {blk off D : Nat} {lt L : Nat → Nat → Bool} {d dk : Array Nat} {w1 W : World}
/-- behind a step -/
def StepQ (enc : Nat → Value) (blk off D : Nat) (L : Nat → Nat → Bool) (d dk : Array Nat) (w1 : World) (a b : Nat) (e : Ending) (w' : World) : Prop :=
  e = .returned (.tuple #[]) ∧ ∃ dk', Hid (SW enc w1 blk off dk' w') ∧ Hid (PermIn 0 D d dk') ∧ Hid (PermIn a b dk dk') ∧ Hid (Good L a b dk')
theorem ins_step (E : StEnv enc g lb sf sb blk off D lt L d w1) (h : SW enc w1 blk off dk W) (hp : PermIn 0 D d dk) (a b : Nat) (hab : a ≤ b) (hb : b ≤ D) (hr : Raw a b dk) :
    Calls Try.prog 32 #[.agg #[.func (.func g) #[] lb, .func (.func sf) #[] sb], .int .i64 (a : Int), .int .i64 (b : Int)] W (StepQ enc blk off D L d dk w1 a b) := by
  have hs : dk.size = D := hp.1.trans E.hd
  refine (Try.insertionSort_func_w enc lt g lb sf sb blk off a b dk W E.eg (hs.symm ▸ h.lessReads E.hL E.hb1 hs) (hs.symm ▸ E.hsw) (h.holds E.hb1 E.hH (hs.trans E.hd.symm)) (h.lt E.hb1) hab (by omega) (by rw [hs]; exact E.hD)).mono ?_
  rintro e w' ⟨rfl, n, os, rfl⟩
  have hi := ins_sorted (lt := lt) (d := dk) E.hS hab (by omega) (fun p q h1 h2 h3 => by
    rw [hr p h1 (by omega), hr q (by omega) h3]
    exact E.hq q p h2)
  exact ⟨rfl, _, Lib.hid (h.on E.hb1 n _ os hi.1.1), Lib.hid (permIn_trans _ _ _ _ _ hp (permIn_mono _ _ a b 0 D (Nat.zero_le _) hb (by omega) hi.1)), Lib.hid hi.1, Lib.hid ⟨hi.2, hr.rng.perm (by omega) hi.1⟩⟩
theorem sym_step (E : StEnv enc g lb sf sb blk off D lt L d w1) (h : SW enc w1 blk off dk W) (hp : PermIn 0 D d dk) (a m b : Nat) (ham : a < m) (hmb : m < b) (hb : b ≤ D) (h1 : Good L a m dk) (h2 : Good L m b dk) :
    Calls Try.prog 33 #[.agg #[.func (.func g) #[] lb, .func (.func sf) #[] sb], .int .i64 (a : Int), .int .i64 (m : Int), .int .i64 (b : Int)] W (StepQ enc blk off D L d dk w1 a b) := by
  have hs : dk.size = D := hp.1.trans E.hd
  refine (symMerge_any E.hS g lb sf sb blk off E.eg D E.hD E.hsw (b - a) a m b dk W rfl (h.lessReads E.hL E.hb1 hs) (h.holds E.hb1 E.hH (hs.trans E.hd.symm)) (h.lt E.hb1) hs ham hmb hb h1.s h2.s (fun i j hi hi2 hj hj2 => by
    have x1 := h1.r i hi hi2
    have x2 := h2.r j hj hj2
    exact E.hq _ _ (by omega))).mono ?_
  rintro e w' ⟨rfl, dk', hw, hp2, hs2⟩
  exact ⟨rfl, dk', Lib.hid (sw_trans h hw E.hb1 hp2.1), Lib.hid (permIn_trans _ _ _ _ _ hp (permIn_mono _ _ a b 0 D (Nat.zero_le _) hb (by omega) hp2)), Lib.hid hp2, Lib.hid ⟨hs2, (h1.rng h2 (by omega) (by omega)).perm (by omega) hp2⟩⟩
end
set_option maxHeartbeats 6400000 in
set_option maxRecDepth 100000 in
theorem stab_a {enc : Nat → Value} {g : Nat} {lb : Array Value} {sf : Nat} {sb : Array Value} {blk off n : Nat} {lt L : Nat → Nat → Bool} {d : Array Nat} (w : World) (hblk : blk < w.heap.size) (E : StEnv enc g lb sf sb blk off n lt L d (w.alloc (.cells #[.func (.func g) #[] lb, .func (.func sf) #[] sb] 47))) (hr : Raw 0 n d) (h1 : n < 20) :
    Calls Try.prog 21 #[.agg #[.func (.func g) #[] lb, .func (.func sf) #[] sb], .int .i64 (n : Int)] w fun e w' => e = .returned (.tuple #[]) ∧ ∃ d', SW enc w blk off d' w' ∧ PermIn 0 n d d' ∧ Good L 0 n d' := by
  have HR0 := Lib.hid hr
  have S0 := Lib.hid (SW.start E.hH)
  have P0 := Lib.hid (permIn_refl d 0 n)
  have hbn : w.heap.size ≠ blk := by omega
  clear hr
  go_enter Try.func21, Try.ntmps21
  go_wp2
  refine wp_loop_rounds 1 ?_
  rw [rounds_succ]
  go_wp2_with (go_at_call 32; refine (ins_step E S0.out P0.out 0 n (by omega) (by omega) (HR0.out.part (by omega) (by omega))).mono ?_; rintro e w1 ⟨rfl, d1, S1, P1, Q1, N1⟩; have c0_1 : w1.cell? ⟨w.heap.size, 0, none⟩ = some (.func (.func g) #[] lb) := (sw_cell S1.out (by simp) hbn).trans (by simp); have c1_1 : w1.cell? ⟨w.heap.size, 1, none⟩ = some (.func (.func sf) #[] sb) := (sw_cell S1.out (by simp) hbn).trans (by simp))
  have R1 := Lib.hid ((HR0.out.part (lo := n) (hi := n) (by omega) (by omega)).keep Q1.out (by omega))
  refine wp_loop_rounds 1 ?_
  rw [rounds_succ]
  go_wp2
  go_end0
  exact ⟨rfl, _, sw_unalloc S1.out hblk, P1.out, N1.out⟩
set_option maxHeartbeats 6400000 in
set_option maxRecDepth 100000 in
theorem stab_b {enc : Nat → Value} {g : Nat} {lb : Array Value} {sf : Nat} {sb : Array Value} {blk off n : Nat} {lt L : Nat → Nat → Bool} {d : Array Nat} (w : World) (hblk : blk < w.heap.size) (E : StEnv enc g lb sf sb blk off n lt L d (w.alloc (.cells #[.func (.func g) #[] lb, .func (.func sf) #[] sb] 47))) (hr : Raw 0 n d) (h1 : 20 ≤ n) (h2 : n ≤ 20) :
    Calls Try.prog 21 #[.agg #[.func (.func g) #[] lb, .func (.func sf) #[] sb], .int .i64 (n : Int)] w fun e w' => e = .returned (.tuple #[]) ∧ ∃ d', SW enc w blk off d' w' ∧ PermIn 0 n d d' ∧ Good L 0 n d' := by
  have HR0 := Lib.hid hr
  have S0 := Lib.hid (SW.start E.hH)
  have P0 := Lib.hid (permIn_refl d 0 n)
  have hbn : w.heap.size ≠ blk := by omega
  clear hr
  go_enter Try.func21, Try.ntmps21
  go_wp2
  refine wp_loop_rounds 2 ?_
  rw [rounds_succ]
  go_wp2_with (go_at_call 32; refine (ins_step E S0.out P0.out 0 20 (by omega) (by omega) (HR0.out.part (by omega) (by omega))).mono ?_; rintro e w1 ⟨rfl, d1, S1, P1, Q1, N1⟩; have c0_1 : w1.cell? ⟨w.heap.size, 0, none⟩ = some (.func (.func g) #[] lb) := (sw_cell S1.out (by simp) hbn).trans (by simp); have c1_1 : w1.cell? ⟨w.heap.size, 1, none⟩ = some (.func (.func sf) #[] sb) := (sw_cell S1.out (by simp) hbn).trans (by simp))
  have R1 := Lib.hid ((HR0.out.part (lo := 20) (hi := n) (by omega) (by omega)).keep Q1.out (by omega))
  rw [rounds_succ]
  go_wp2_with (go_at_call 32; refine (ins_step E S1.out P1.out 20 n (by omega) (by omega) (R1.out.part (by omega) (by omega))).mono ?_; rintro e w2 ⟨rfl, d2, S2, P2, Q2, N2⟩; have c0_2 : w2.cell? ⟨w.heap.size, 0, none⟩ = some (.func (.func g) #[] lb) := (sw_cell S2.out (by simp) hbn).trans (by simp); have c1_2 : w2.cell? ⟨w.heap.size, 1, none⟩ = some (.func (.func sf) #[] sb) := (sw_cell S2.out (by simp) hbn).trans (by simp))
  have G2_0_20 := Lib.hid (N1.out.keep Q2.out (by omega))
  have R2 := Lib.hid ((R1.out.part (lo := n) (hi := n) (by omega) (by omega)).keep Q2.out (by omega))
  refine wp_loop_rounds 1 ?_
  rw [rounds_succ]
  go_wp2
  go_end0
  exact ⟨rfl, _, sw_unalloc S2.out hblk, P2.out, (by have e : n = 20 := (by omega); subst e; exact G2_0_20.out)⟩
set_option maxHeartbeats 6400000 in
set_option maxRecDepth 100000 in
theorem stab_c {enc : Nat → Value} {g : Nat} {lb : Array Value} {sf : Nat} {sb : Array Value} {blk off n : Nat} {lt L : Nat → Nat → Bool} {d : Array Nat} (w : World) (hblk : blk < w.heap.size) (E : StEnv enc g lb sf sb blk off n lt L d (w.alloc (.cells #[.func (.func g) #[] lb, .func (.func sf) #[] sb] 47))) (hr : Raw 0 n d) (h1 : 20 < n) (h2 : n < 40) :
    Calls Try.prog 21 #[.agg #[.func (.func g) #[] lb, .func (.func sf) #[] sb], .int .i64 (n : Int)] w fun e w' => e = .returned (.tuple #[]) ∧ ∃ d', SW enc w blk off d' w' ∧ PermIn 0 n d d' ∧ Good L 0 n d' := by
  have HR0 := Lib.hid hr
  have S0 := Lib.hid (SW.start E.hH)
  have P0 := Lib.hid (permIn_refl d 0 n)
  have hbn : w.heap.size ≠ blk := by omega
  clear hr
  go_enter Try.func21, Try.ntmps21
  go_wp2
  refine wp_loop_rounds 2 ?_
  rw [rounds_succ]
  go_wp2_with (go_at_call 32; refine (ins_step E S0.out P0.out 0 20 (by omega) (by omega) (HR0.out.part (by omega) (by omega))).mono ?_; rintro e w1 ⟨rfl, d1, S1, P1, Q1, N1⟩; have c0_1 : w1.cell? ⟨w.heap.size, 0, none⟩ = some (.func (.func g) #[] lb) := (sw_cell S1.out (by simp) hbn).trans (by simp); have c1_1 : w1.cell? ⟨w.heap.size, 1, none⟩ = some (.func (.func sf) #[] sb) := (sw_cell S1.out (by simp) hbn).trans (by simp))
  have R1 := Lib.hid ((HR0.out.part (lo := 20) (hi := n) (by omega) (by omega)).keep Q1.out (by omega))
  rw [rounds_succ]
  go_wp2_with (go_at_call 32; refine (ins_step E S1.out P1.out 20 n (by omega) (by omega) (R1.out.part (by omega) (by omega))).mono ?_; rintro e w2 ⟨rfl, d2, S2, P2, Q2, N2⟩; have c0_2 : w2.cell? ⟨w.heap.size, 0, none⟩ = some (.func (.func g) #[] lb) := (sw_cell S2.out (by simp) hbn).trans (by simp); have c1_2 : w2.cell? ⟨w.heap.size, 1, none⟩ = some (.func (.func sf) #[] sb) := (sw_cell S2.out (by simp) hbn).trans (by simp))
  have G2_0_20 := Lib.hid (N1.out.keep Q2.out (by omega))
  have R2 := Lib.hid ((R1.out.part (lo := n) (hi := n) (by omega) (by omega)).keep Q2.out (by omega))
  refine wp_loop_rounds 2 ?_
  rw [rounds_succ]
  go_wp2
  refine wp_loop_rounds 1 ?_
  rw [rounds_succ]
  go_wp2_with (go_at_call 33; refine (sym_step E S2.out P2.out 0 20 n (by omega) (by omega) (by omega) G2_0_20.out N2.out).mono ?_; rintro e w3 ⟨rfl, d3, S3, P3, Q3, N3⟩; have c0_3 : w3.cell? ⟨w.heap.size, 0, none⟩ = some (.func (.func g) #[] lb) := (sw_cell S3.out (by simp) hbn).trans (by simp); have c1_3 : w3.cell? ⟨w.heap.size, 1, none⟩ = some (.func (.func sf) #[] sb) := (sw_cell S3.out (by simp) hbn).trans (by simp))
  rw [rounds_succ]
  go_wp2
  go_end0
  exact ⟨rfl, _, sw_unalloc S3.out hblk, P3.out, N3.out⟩
set_option maxHeartbeats 6400000 in
set_option maxRecDepth 100000 in
theorem stab_d {enc : Nat → Value} {g : Nat} {lb : Array Value} {sf : Nat} {sb : Array Value} {blk off n : Nat} {lt L : Nat → Nat → Bool} {d : Array Nat} (w : World) (hblk : blk < w.heap.size) (E : StEnv enc g lb sf sb blk off n lt L d (w.alloc (.cells #[.func (.func g) #[] lb, .func (.func sf) #[] sb] 47))) (hr : Raw 0 n d) (h1 : 40 ≤ n) (h2 : n ≤ 40) :
    Calls Try.prog 21 #[.agg #[.func (.func g) #[] lb, .func (.func sf) #[] sb], .int .i64 (n : Int)] w fun e w' => e = .returned (.tuple #[]) ∧ ∃ d', SW enc w blk off d' w' ∧ PermIn 0 n d d' ∧ Good L 0 n d' := by
  have HR0 := Lib.hid hr
  have S0 := Lib.hid (SW.start E.hH)
  have P0 := Lib.hid (permIn_refl d 0 n)
  have hbn : w.heap.size ≠ blk := by omega
  clear hr
  go_enter Try.func21, Try.ntmps21
  go_wp2
  refine wp_loop_rounds 3 ?_
  rw [rounds_succ]
  go_wp2_with (go_at_call 32; refine (ins_step E S0.out P0.out 0 20 (by omega) (by omega) (HR0.out.part (by omega) (by omega))).mono ?_; rintro e w1 ⟨rfl, d1, S1, P1, Q1, N1⟩; have c0_1 : w1.cell? ⟨w.heap.size, 0, none⟩ = some (.func (.func g) #[] lb) := (sw_cell S1.out (by simp) hbn).trans (by simp); have c1_1 : w1.cell? ⟨w.heap.size, 1, none⟩ = some (.func (.func sf) #[] sb) := (sw_cell S1.out (by simp) hbn).trans (by simp))
  have R1 := Lib.hid ((HR0.out.part (lo := 20) (hi := n) (by omega) (by omega)).keep Q1.out (by omega))
  rw [rounds_succ]
  go_wp2_with (go_at_call 32; refine (ins_step E S1.out P1.out 20 40 (by omega) (by omega) (R1.out.part (by omega) (by omega))).mono ?_; rintro e w2 ⟨rfl, d2, S2, P2, Q2, N2⟩; have c0_2 : w2.cell? ⟨w.heap.size, 0, none⟩ = some (.func (.func g) #[] lb) := (sw_cell S2.out (by simp) hbn).trans (by simp); have c1_2 : w2.cell? ⟨w.heap.size, 1, none⟩ = some (.func (.func sf) #[] sb) := (sw_cell S2.out (by simp) hbn).trans (by simp))
  have G2_0_20 := Lib.hid (N1.out.keep Q2.out (by omega))
  have R2 := Lib.hid ((R1.out.part (lo := 40) (hi := n) (by omega) (by omega)).keep Q2.out (by omega))
  rw [rounds_succ]
  go_wp2_with (go_at_call 32; refine (ins_step E S2.out P2.out 40 n (by omega) (by omega) (R2.out.part (by omega) (by omega))).mono ?_; rintro e w3 ⟨rfl, d3, S3, P3, Q3, N3⟩; have c0_3 : w3.cell? ⟨w.heap.size, 0, none⟩ = some (.func (.func g) #[] lb) := (sw_cell S3.out (by simp) hbn).trans (by simp); have c1_3 : w3.cell? ⟨w.heap.size, 1, none⟩ = some (.func (.func sf) #[] sb) := (sw_cell S3.out (by simp) hbn).trans (by simp))
  have G3_0_20 := Lib.hid (G2_0_20.out.keep Q3.out (by omega))
  have G3_20_40 := Lib.hid (N2.out.keep Q3.out (by omega))
  have R3 := Lib.hid ((R2.out.part (lo := n) (hi := n) (by omega) (by omega)).keep Q3.out (by omega))
  refine wp_loop_rounds 2 ?_
  rw [rounds_succ]
  go_wp2
  refine wp_loop_rounds 2 ?_
  rw [rounds_succ]
  go_wp2_with (go_at_call 33; refine (sym_step E S3.out P3.out 0 20 40 (by omega) (by omega) (by omega) G3_0_20.out G3_20_40.out).mono ?_; rintro e w4 ⟨rfl, d4, S4, P4, Q4, N4⟩; have c0_4 : w4.cell? ⟨w.heap.size, 0, none⟩ = some (.func (.func g) #[] lb) := (sw_cell S4.out (by simp) hbn).trans (by simp); have c1_4 : w4.cell? ⟨w.heap.size, 1, none⟩ = some (.func (.func sf) #[] sb) := (sw_cell S4.out (by simp) hbn).trans (by simp))
  have G4_40_n := Lib.hid (N3.out.keep Q4.out (by omega))
  rw [rounds_succ]
  go_wp2
  rw [rounds_succ]
  go_wp2
  go_end0
  exact ⟨rfl, _, sw_unalloc S4.out hblk, P4.out, (by have e : n = 40 := (by omega); subst e; exact N4.out)⟩
end Go.Proofs.Ytddmgjcepkimbaa
