/-
  Contracts on sharing out: the order of the rests, the program's.
-/
import Derived.Test.YtddmgjcepkimbaaStab
import Derived.Test.YtddmgjcepkimbaaStab2
import Derived.Test.YtddmgjcepkimbaaStab3
import Derived.Test.YtddmgjcepkimbaaOnly
import Derived.Deep.QuietTactic
import Derived.Lib.OwnBridge
namespace Go.Proofs.Ytddmgjcepkimbaa
set_option linter.unusedVariables false
set_option linter.unusedSimpArgs false
open Go.RowKit

open Go.Shelf Go.Lib Go.Sort
/-- what is left of a share -/
def rst (T s : Int) (ws : List Int) (k : Nat) : Int := (T * gt ws k) % s
set_option maxHeartbeats 2000000 in
theorem less_any (W : World) (bt bw bo bs blk size c cw : Nat) (A : Option Addr) (ws : List Int) (T s : Int) (D : Nat → Nat) (i j : Nat) (ht : W.cell? ⟨bt, 0, none⟩ = some (.int .i64 T)) (hw : W.cell? ⟨bw, 0, none⟩ = some (.slice A ws.length cw))
    (ho : W.cell? ⟨bo, 0, none⟩ = some (.slice (some ⟨blk, 0, none⟩) size c)) (hs : W.cell? ⟨bs, 0, none⟩ = some (.int .i64 s)) (hA : RC W A (ints ws)) (hc : ∀ k, k < size → W.cell? ⟨blk, 0 + k, none⟩ = some (.int .i64 (D k : Int)))
    (hD : ∀ k, k < size → D k < ws.length) (hT : 0 ≤ T ∧ T ≤ 1000000000) (hs1 : 1 ≤ s) (hs2 : s ≤ 1000000000) (hb : ∀ k, k < ws.length → 0 ≤ gt ws k ∧ gt ws k ≤ 1000000000) (hi : i < size) (hj : j < size) :
    Calls Try.prog 18 #[.int .i64 (i : Int), .int .i64 (j : Int), .pointer (some ⟨bt, 0, none⟩), .pointer (some ⟨bw, 0, none⟩), .pointer (some ⟨bo, 0, none⟩), .pointer (some ⟨bs, 0, none⟩)] W fun e w' => e = .returned (.bool (decide (rst T s ws (D j) < rst T s ws (D i)))) ∧ ∃ q, w' = W.drewN q := by
  have ci := hc i hi
  have cj := hc j hj
  rw [Nat.zero_add] at ci cj
  have hdi := hD i hi
  have hdj := hD j hj
  obtain ⟨x, hx⟩ : ∃ x, D i = x := ⟨_, rfl⟩
  obtain ⟨y, hy⟩ : ∃ y, D j = y := ⟨_, rfl⟩
  rw [hx] at ci hdi ⊢
  rw [hy] at cj hdj ⊢
  obtain ⟨b, off, rfl, hbl, hcell⟩ := hA (by rw [ints_len]; omega)
  have gx := hcell x (by rw [ints_len]; exact hdi)
  have gy := hcell y (by rw [ints_len]; exact hdj)
  rw [ints_get ws x hdi] at gx
  rw [ints_get ws y hdj] at gy
  have bx := hb x hdi
  have by' := hb y hdj
  obtain ⟨X, hX⟩ : ∃ X, gt ws x = X := ⟨_, rfl⟩
  obtain ⟨Y, hY⟩ : ∃ Y, gt ws y = Y := ⟨_, rfl⟩
  rw [hX] at gx bx
  rw [hY] at gy by'
  have HE := Lib.hid (show decide (rst T s ws y < rst T s ws x) = decide ((T * Y) % s < (T * X) % s) by rw [rst, rst, hX, hY])
  have p1 : 0 ≤ T * X ∧ T * X ≤ 1000000000 * 1000000000 := ⟨Int.mul_nonneg hT.1 bx.1, Int.mul_le_mul hT.2 bx.2 bx.1 (by omega)⟩
  have p2 : 0 ≤ T * Y ∧ T * Y ≤ 1000000000 * 1000000000 := ⟨Int.mul_nonneg hT.1 by'.1, Int.mul_le_mul hT.2 by'.2 by'.1 (by omega)⟩
  have q1 := IntWalk.i64_in (T * X) (by omega)
  have q2 := IntWalk.i64_in (T * Y) (by omega)
  have hs0 : (s == 0) = false := by simp; omega
  have hs3 : ¬ s = 0 := by omega
  clear hc hD hA hcell hb hX hY hx hy
  rw [HE.out]
  go_enter Try.func18, Try.ntmps18
  go_wp2
  go_quiet (fail)
  go_wp2
  go_ret
  exact ⟨rfl, nq, rfl⟩
noncomputable def siT : TypeInfo := (Try.prog.info? 35).get (by kernel_rfl)
noncomputable def siE : TypeInfo := (Try.prog.info? 3).get (by kernel_rfl)
theorem siK (n : Nat) (h2 : 2 ≤ n) : Lib.swapperK n siE 2 = 5 := by
  have a : siE.hasPointers = false := by kernel_rfl
  have b : siE.bytes = 8 := by kernel_rfl
  have c : (n == 0) = false := by simp; omega
  have d : (n == 1) = false := by simp; omega
  simp [Lib.swapperK, a, b, c, d]
/-- a place, as the row holds it; the program's order and the wanted one -/
def enN (n x : Nat) : Value := .int .i64 ((x % n : Nat) : Int)
def ltR (T s : Int) (ws : List Int) (x y : Nat) : Bool := decide (rst T s ws (y % ws.length) < rst T s ws (x % ws.length))
def ltL (T s : Int) (ws : List Int) (x y : Nat) : Bool := decide (rst T s ws (y % ws.length) < rst T s ws (x % ws.length) ∨ (rst T s ws (y % ws.length) = rst T s ws (x % ws.length) ∧ x < y))
theorem swoL (T s : Int) (ws : List Int) : SWO (ltL T s ws) where
  irrefl x := by simp [ltL]
  trans x y z h1 h2 := by simp only [ltL, decide_eq_true_eq] at *; omega
  ntrans x y z h1 h2 := by simp only [ltL, decide_eq_false_iff_not] at *; omega
theorem ltR_L (T s : Int) (ws : List Int) (x y : Nat) (h : y < x) : ltR T s ws x y = ltL T s ws x y := by
  unfold ltR ltL
  rw [Bool.eq_iff_iff]
  simp only [decide_eq_true_eq]
  omega
/-- what the sort leaves -/
def SortQ (T s : Int) (ws : List Int) (blk : Nat) (w : World) (e : Ending) (w' : World) : Prop :=
  e = .returned (.tuple #[]) ∧ ∃ d' : Array Nat, SW (enN ws.length) w blk 0 d' w' ∧ PermIn 0 ws.length (Array.range ws.length) d' ∧ SortedIn (ltL T s ws) 0 ws.length d'
theorem raw_range (n : Nat) : Raw 0 n (Array.range n) := fun k _ h => by
  rw [getElem!_pos _ k (by simpa using h)]
  simp
theorem stab_any {enc : Nat → Value} {g : Nat} {lb : Array Value} {sf : Nat} {sb : Array Value} {blk off n : Nat} {lt L : Nat → Nat → Bool} {d : Array Nat} (w : World) (hblk : blk < w.heap.size) (E : StEnv enc g lb sf sb blk off n lt L d (w.alloc (.cells #[.func (.func g) #[] lb, .func (.func sf) #[] sb] 47))) (hr : Raw 0 n d) (hn : n ≤ 60) :
    Calls Try.prog 21 #[.agg #[.func (.func g) #[] lb, .func (.func sf) #[] sb], .int .i64 (n : Int)] w fun e w' => e = .returned (.tuple #[]) ∧ ∃ d', SW enc w blk off d' w' ∧ PermIn 0 n d d' ∧ Good L 0 n d' := by
  by_cases h1 : n < 20
  · exact stab_a w hblk E hr h1
  by_cases h2 : n ≤ 20
  · exact stab_b w hblk E hr (by omega) h2
  by_cases h3 : n < 40
  · exact stab_c w hblk E hr (by omega) h3
  by_cases h4 : n ≤ 40
  · exact stab_d w hblk E hr (by omega) h4
  by_cases h5 : n < 60
  · exact stab_e w hblk E hr (by omega) h5
  · exact stab_f w hblk E hr (by omega) hn
set_option maxHeartbeats 2000000 in
theorem sort_any (w : World) (bt bw bo bs blk c cw : Nat) (A : Option Addr) (ws : List Int) (T s : Int) (ht : w.cell? ⟨bt, 0, none⟩ = some (.int .i64 T)) (hw : w.cell? ⟨bw, 0, none⟩ = some (.slice A ws.length cw))
    (ho : w.cell? ⟨bo, 0, none⟩ = some (.slice (some ⟨blk, 0, none⟩) ws.length c)) (hs : w.cell? ⟨bs, 0, none⟩ = some (.int .i64 s)) (hA : RC w A (ints ws)) (hAb : ∀ a, A = some a → a.block ≠ blk) (hne : bt ≠ blk ∧ bw ≠ blk ∧ bo ≠ blk ∧ bs ≠ blk)
    (hH : Holds (enN ws.length) w blk 0 (Array.range ws.length)) (hblk : blk < w.heap.size) (h1 : 1 ≤ ws.length) (h60 : ws.length ≤ 60) (hT : 0 ≤ T ∧ T ≤ 1000000000) (hs1 : 1 ≤ s) (hs2 : s ≤ 1000000000) (hb : ∀ k, k < ws.length → 0 ≤ gt ws k ∧ gt ws k ≤ 1000000000) :
    Calls Try.prog 17 #[.iface 35 (.slice (some ⟨blk, 0, none⟩) ws.length c), .func (.func 18) #[] #[.pointer (some ⟨bt, 0, none⟩), .pointer (some ⟨bw, 0, none⟩), .pointer (some ⟨bo, 0, none⟩), .pointer (some ⟨bs, 0, none⟩)]] w (SortQ T s ws blk w) := by
  obtain ⟨n, hn⟩ : ∃ n, ws.length = n := ⟨_, rfl⟩
  have hsz : (Array.range ws.length).size = ws.length := by simp
  have hless : LessReads Try.prog 18 #[.pointer (some ⟨bt, 0, none⟩), .pointer (some ⟨bw, 0, none⟩), .pointer (some ⟨bo, 0, none⟩), .pointer (some ⟨bs, 0, none⟩)] (enN ws.length) (ltR T s ws) blk 0 ws.length w := by
    intro m os dk hs' i j hi hj
    have hSW : SW (enN ws.length) w blk 0 dk (sortWorld (enN ws.length) w blk 0 m dk os) := ⟨m, os, rfl⟩
    have hH2 := hSW.holds hblk hH (hs'.trans hsz.symm)
    have cl : ∀ b, w.cell? ⟨b, 0, none⟩ ≠ none → b < w.heap.size := fun b h => by
      cases hx : w.cell? ⟨b, 0, none⟩ with
      | none => exact absurd hx h
      | some v => exact World.block_lt_of_cell? w _ hx
    exact less_any _ bt bw bo bs blk ws.length c cw A ws T s (fun k => dk[k]! % ws.length) i j ((sw_cell hSW (cl _ (by rw [ht]; simp)) hne.1).trans ht) ((sw_cell hSW (cl _ (by rw [hw]; simp)) hne.2.1).trans hw) ((sw_cell hSW (cl _ (by rw [ho]; simp)) hne.2.2.1).trans ho) ((sw_cell hSW (cl _ (by rw [hs]; simp)) hne.2.2.2).trans hs)
      (fun h0 => by
        obtain ⟨b, off, rfl, hbl, hcell⟩ := hA h0
        exact ⟨b, off, rfl, Nat.lt_of_lt_of_le hbl hSW.le, fun k hk => (sw_cell hSW hbl (hAb _ rfl)).trans (hcell k hk)⟩)
      (fun k hk => (hH2 k (by omega)).1) (fun k hk => Nat.mod_lt _ (by omega)) hT hs1 hs2 hb hi hj
  by_cases h2 : 2 ≤ ws.length
  · refine Any.sort_SliceStable_of_stable Try.laysGt8 35 3 siT siE (by kernel_rfl) (by kernel_rfl) (by kernel_rfl) (by kernel_rfl) 2 (fun _ => by kernel_rfl) (some ⟨blk, 0, none⟩) ws.length c (by omega) 27 (by rw [siK _ h2]; kernel_rfl) (.func 18) #[] #[.pointer (some ⟨bt, 0, none⟩), .pointer (some ⟨bw, 0, none⟩), .pointer (some ⟨bo, 0, none⟩), .pointer (some ⟨bs, 0, none⟩)] w (fun w' => ∃ d' : Array Nat, SW (enN ws.length) w blk 0 d' w' ∧ PermIn 0 ws.length (Array.range ws.length) d' ∧ SortedIn (ltL T s ws) 0 ws.length d') ?_
    have hB : sliceBound Try.prog 3 siE 2 (some ⟨blk, 0, none⟩) ws.length c = #[.slice (some ⟨blk, 0, none⟩) ws.length c, typeHandle Try.prog 3] := by
      unfold sliceBound; rw [if_neg (swapperK_gt _ _ _ h2)]
    rw [hB]
    have hW2 := ((SW.start hH).alloc (.cells #[.slice (some ⟨blk, 0, none⟩) ws.length c] 35)).alloc (.cells #[.pointer (some ⟨Try.prog.globals.size, 35, none⟩), .pointer (some ⟨w.heap.size, 0, none⟩), .int .u64 151] (Try.laysGt8_ren.t 36))
    have hW3 := hW2.alloc (.cells #[.func (.func 18) #[] #[.pointer (some ⟨bt, 0, none⟩), .pointer (some ⟨bw, 0, none⟩), .pointer (some ⟨bo, 0, none⟩), .pointer (some ⟨bs, 0, none⟩)], .func (.func 27) #[] #[.slice (some ⟨blk, 0, none⟩) ws.length c, typeHandle Try.prog 3]] 47)
    have hE : StEnv (enN ws.length) 18 #[.pointer (some ⟨bt, 0, none⟩), .pointer (some ⟨bw, 0, none⟩), .pointer (some ⟨bo, 0, none⟩), .pointer (some ⟨bs, 0, none⟩)] 27 #[.slice (some ⟨blk, 0, none⟩) ws.length c, typeHandle Try.prog 3] blk 0 ws.length (ltR T s ws) (ltL T s ws) (Array.range ws.length) _ :=
      ⟨swoL T s ws, enters_of Try.func18 (by kernel_rfl) rfl, by omega,
        swapSwaps_of_literal true 27 (fun args W => run_callFunc_extern Try.func27 (by kernel_rfl) (by kernel_rfl) (by kernel_rfl) (e := Extern.ReflectliteSwapper.swap true) (by kernel_rfl) args W) 3 siE (by kernel_rfl) (by kernel_rfl) (fun _ => by kernel_rfl) (enN ws.length) (fun _ => rfl) blk 0 ws.length c,
        hW3.lt hblk, hW3.holds hblk hH rfl, hW3.lessReads hless hblk hsz, hsz, fun x y h => ltR_L T s ws x y h⟩
    refine (stab_any _ (hW2.lt hblk) hE (raw_range _) h60).mono ?_
    rintro e w' ⟨rfl, d', hw', hp', hg'⟩
    exact ⟨rfl, d', sw_unalloc (sw_unalloc hw' ((SW.start hH).alloc _ |>.lt hblk)) hblk, hp', hg'.s⟩
  · have hK : Lib.swapperK ws.length siE 2 = 2 := by rw [show ws.length = 1 by omega]; rfl
    have hS := Any.sort_SliceStable_tiny Try.laysGt8 35 3 siT siE (by kernel_rfl) (by kernel_rfl) (by kernel_rfl) (by kernel_rfl) 2 (fun _ => by kernel_rfl) (some ⟨blk, 0, none⟩) ws.length c (by omega) 24 (by rw [hK]; kernel_rfl) (.func 18) #[] #[.pointer (some ⟨bt, 0, none⟩), .pointer (some ⟨bw, 0, none⟩), .pointer (some ⟨bo, 0, none⟩), .pointer (some ⟨bs, 0, none⟩)] w
    refine hS.mono ?_
    rintro e w' ⟨rfl, os, rfl⟩
    refine ⟨rfl, Array.range ws.length, ⟨0, os, ?_⟩, permIn_refl _ _ _, fun i j _ _ _ => by omega⟩
    unfold sortWorld
    rw [ahead_zero, putRow_self _ _ _ _ _ hH]
end Go.Proofs.Ytddmgjcepkimbaa
