/-
  Contracts of the statements' own helpers on lists of numbers: a copy, a comparison, the marks. They hold for every list of at most 1048576 numbers.
-/
import Derived.Test.YtddmgjcepkimbaaRows
import Derived.Test.YtddmgjcepkimbaaWords
import Derived.Deep.QuietTactic
import Derived.BigQuiet
namespace Go.Proofs.Ytddmgjcepkimbaa
set_option linter.unusedVariables false
open Go.RowKit

/-- a quiet call in a region that draws its order, behind earlier draws and without -/
theorem quiet_add_eq {P : Program} {f : FuncId} {args : Array Value} {w : World} {a n : Nat} {v : Value}
    (h : Calls P f args (w.drewN (a + n)) fun e w' => e = .returned v ∧ w.drewN (a + n) = w') : Calls P f args (w.drewN (a + n)) fun e w'' => e = .returned v ∧ ∃ m, w'' = w.drewN (a + m) :=
  h.mono fun _ _ ⟨he, hm⟩ => ⟨he, n, hm.symm⟩
theorem quiet_eq {P : Program} {f : FuncId} {args : Array Value} {w : World} {n : Nat} {v : Value}
    (h : Calls P f args (w.drewN n) fun e w' => e = .returned v ∧ w.drewN n = w') : Calls P f args (w.drewN n) fun e w'' => e = .returned v ∧ ∃ m, w'' = w.drewN m :=
  h.mono fun _ _ ⟨he, hm⟩ => ⟨he, n, hm.symm⟩
theorem infoInt : (Try.prog.info? 2).map (fun i => (i.zero, i.size, i.bytes)) = some (some (.int .i64 0), 1, 8) := by kernel_rfl

/-- the loop that copies: the first k cells are there -/
def ToRel (zs : List Int) (w : World) (m : Nat) (i : Value) (wr : World) : Prop :=
  ∃ k, k ≤ zs.length ∧ m = zs.length - k ∧ i = .int .i64 (k : Int) ∧
    (∃ cur T, wr.heap[w.heap.size]? = some (.cells cur T (0, 0)) ∧ cur.size = zs.length ∧ ∀ j, j < k → cur[j]? = some (.int .i64 (gt zs j))) ∧ Below w.heap.size w wr
theorem toRel_step {zs : List Int} {w wr : World} {k : Nat} {cur : Array Value} {T : TypeId} (hk : k < zs.length) (hg : wr.heap[w.heap.size]? = some (.cells cur T (0, 0))) (hs : cur.size = zs.length)
    (hc : ∀ j, j < k → cur[j]? = some (.int .i64 (gt zs j))) (hb : Below w.heap.size w wr) :
    ToRel zs w (zs.length - (k + 1)) (.int .i64 (((k + 1 : Nat)) : Int)) (wr.setCell ⟨w.heap.size, k, none⟩ (.int .i64 (gt zs k))) := by
  refine ⟨k + 1, by omega, rfl, rfl, ⟨_, T, heap_setCell_same wr _ k cur T _ hg, by simp [hs], fun j hj => ?_⟩, hb.setCell (Nat.le_refl _) _⟩
  by_cases e : j = k
  · subst e; simp [hs, hk]
  · rw [Array.getElem?_setIfInBounds_ne (by omega)]
    exact hc j (by omega)
theorem toRel_end {zs : List Int} {w wr : World} {cur : Array Value} {T : TypeId} {k : Nat} (hk : ¬ k < zs.length) (hg : wr.heap[w.heap.size]? = some (.cells cur T (0, 0)))
    (hc : ∀ j, j < k → cur[j]? = some (.int .i64 (gt zs j))) (hb : Below w.heap.size w wr) :
    NewInts zs w (.returned (.slice (some ⟨w.heap.size, 0, none⟩) zs.length zs.length)) wr :=
  ⟨_, _, rfl, fun _ => ⟨w.heap.size, cur, T, rfl, Nat.le_refl _, (Array.getElem?_eq_some_iff.1 hg).1, hg, fun i hi => by
    rw [ints_len] at hi
    rw [ints_get zs i hi]
    exact hc i (by omega)⟩, hb⟩
theorem toRel_start (zs : List Int) (w : World) (c : Array Value) (T : TypeId) (hc : c.size = zs.length) : ToRel zs w zs.length (.int .i64 0) (w.alloc (.cells c T)) :=
  ⟨0, Nat.zero_le _, by omega, rfl, ⟨c, T, heap_alloc_new w _, hc, fun j hj => absurd hj (by omega)⟩, (Below.refl _ _).alloc (Nat.le_refl _) _⟩

set_option maxHeartbeats 400000 in
theorem toInts (w : World) (A : Option Addr) (c : Nat) (zs : List Int) (hA : RC w A (ints zs)) (hm : zs.length ≤ 1048576) :
    Calls Try.prog 5 #[.slice A zs.length c] w (NewInts zs w) := by
  obtain ⟨i0, hi, hz0, hz1, hz2⟩ := info_parts infoInt
  have hmk : ∀ W : World, (Instr.makeSlice 22 (.int .i64 (zs.length : Int)) (.int .i64 (zs.length : Int))).run Try.prog W =
      .ok (.slice (some ⟨W.heap.size, 0, none⟩) zs.length zs.length) (W.alloc (.cells (madeCells #[.int .i64 0] zs.length) 2)) := fun W => by
    have h := run_make_full_row (P := Try.prog) 22 2 i0 (.int .i64 0) Try.underlying22 hi hz0 zs.length (by rw [hz2]; omega) (by omega) W
    simpa [hz1, Value.cells] using h
  clear hi hz0 hz1 hz2
  have hms : (madeCells #[Value.int .i64 0] zs.length).size = zs.length := by simp [madeCells]
  have HA := Lib.hid hA
  have HMS := Lib.hid hms
  clear hA hms
  go_enter Try.func5, Try.ntmps5
  go_wp2
  go_loopg [4] zs.length (fun m i wr => ToRel zs w m i wr)
  case atStart => exact toRel_start zs w _ _ HMS.out
  case round =>
    obtain ⟨k, hk, hgk, rfl, ⟨cur, T, hg, hs, hc⟩, hb⟩ := hrel
    by_cases hlt : k < zs.length
    · have HR := Lib.hid (toRel_step hlt hg hs hc hb)
      obtain ⟨b, off, rfl, hbl, hcell⟩ := HA.out (by rw [ints_len]; omega)
      have h1 : wr.cell? ⟨b, off + k, none⟩ = some (.int .i64 (gt zs k)) := by
        rw [hb.cell (p := ⟨b, off + k, none⟩) hbl, hcell k (by rw [ints_len]; exact hlt), ints_get zs k hlt]
      obtain ⟨u0, h2⟩ : ∃ u0, wr.cell? ⟨w.heap.size, k, none⟩ = some u0 := ⟨_, (cell_of_row wr _ k cur T (0, 0) hg).trans (Array.getElem?_eq_getElem (by omega))⟩
      have h3 : wr.frozen? ⟨w.heap.size, k, none⟩ = false := frozen_of_row wr _ k cur T hg
      have HGK := Lib.hid hgk
      clear hcell hg hs hc hb hmk hgk
      go_wp2
      go_roundg (zs.length - (k + 1))
      case measure => rw [HGK.out]; omega
      case rel => exact HR.out
    · have HE := Lib.hid (toRel_end hlt hg hc hb)
      have HGK := Lib.hid hgk
      clear hg hs hc hb hmk hgk
      go_wp2
      go_ret
      exact HE.out

set_option maxHeartbeats 400000 in
theorem eqInts (w : World) (A A' : Option Addr) (c c' : Nat) (zs : List Int) (hA : RC w A (ints zs)) (hA' : RC w A' (ints zs)) (hm : zs.length ≤ 1048576) :
    Calls Try.prog 7 #[.slice A zs.length c, .slice A' zs.length c'] w fun e w' => e = .returned (.bool true) ∧ ∃ d, w' = w.drewN d := by
  have HA := Lib.hid hA
  have HB := Lib.hid hA'
  clear hA hA'
  go_enter Try.func7, Try.ntmps7
  go_wp2
  go_loopg [5] zs.length (fun m i wr => ∃ k, k ≤ zs.length ∧ m = zs.length - k ∧ i = .int .i64 (k : Int) ∧ ∃ d, wr = w.drewN d)
  case atStart => exact ⟨0, Nat.zero_le _, by omega, rfl, 0, rfl⟩
  case round =>
    obtain ⟨k, hk, hgk, rfl, d, rfl⟩ := hrel
    have HGK := Lib.hid hgk
    clear hgk
    by_cases hlt : k < zs.length
    · obtain ⟨b, off, rfl, hbl, hcell⟩ := HA.out (by rw [ints_len]; omega)
      obtain ⟨b', off', rfl, hbl', hcell'⟩ := HB.out (by rw [ints_len]; omega)
      have h1 := hcell k (by rw [ints_len]; exact hlt)
      have h2 := hcell' k (by rw [ints_len]; exact hlt)
      rw [ints_get zs k hlt] at h1 h2
      clear hcell hcell'
      go_wp2
      go_quiet (fail)
      go_wp2
      go_roundg (zs.length - (k + 1))
      case measure => rw [HGK.out]; omega
      case rel => exact ⟨k + 1, by omega, rfl, by go_num, _, rfl⟩
    · go_wp2
      go_ret
      exact ⟨rfl, _, rfl⟩

/-- the loop that marks: the first k cells hold the numbers from 'at' on -/
def MarkRel (n : Nat) (start : Int) (A : Option Addr) (B E : Nat) (w : World) (m : Nat) (i at' : Value) (wr : World) : Prop :=
  ∃ k, k ≤ n ∧ m = n - k ∧ i = .int .i64 (k : Int) ∧ at' = .int .i64 (start + (k : Int)) ∧ Only n A w wr ∧
    (0 < n → ∃ g cur T, A = some ⟨g, 0, none⟩ ∧ B ≤ g ∧ g < E ∧ wr.heap[g]? = some (.cells cur T (0, 0)) ∧ n ≤ cur.size ∧ ∀ j, j < k → cur[j]? = some (.int .i64 (start + (j : Int))))
theorem markRel_start {n : Nat} {start : Int} {A : Option Addr} {B E : Nat} {w : World} {cs : List Value} (h : OwnC B E w A cs) (hn : cs.length = n) : MarkRel n start A B E w n (.int .i64 0) (.int .i64 start) w :=
  ⟨0, Nat.zero_le _, by omega, rfl, by simp, Only.refl _ _ _, fun h0 => by
    obtain ⟨g, cur, T, hA, h1, h2, hg, hc⟩ := h (by omega)
    refine ⟨g, cur, T, hA, h1, h2, hg, ?_, fun j hj => absurd hj (by omega)⟩
    rcases Nat.lt_or_ge cur.size n with hlt | hge
    · have := hc cur.size (by omega)
      rw [Array.getElem?_eq_none (Nat.le_refl _), List.getElem?_eq_getElem (by omega)] at this
      cases this
    · exact hge⟩
theorem markRel_step {n : Nat} {start : Int} {B E : Nat} {w wr : World} {k g : Nat} {cur : Array Value} {T : TypeId} (hk : k < n) (ho : Only n (some ⟨g, 0, none⟩) w wr) (h1 : B ≤ g) (h2 : g < E)
    (hg : wr.heap[g]? = some (.cells cur T (0, 0))) (hs : n ≤ cur.size) (hc : ∀ j, j < k → cur[j]? = some (.int .i64 (start + (j : Int)))) :
    MarkRel n start (some ⟨g, 0, none⟩) B E w (n - (k + 1)) (.int .i64 ((k : Int) + 1)) (.int .i64 (start + (k : Int) + 1)) (wr.setCell ⟨g, k, none⟩ (.int .i64 (start + (k : Int)))) := by
  refine ⟨k + 1, by omega, rfl, by go_num, by go_num, ⟨ho.os, ho.tape, ho.output, by simpa using ho.size, fun j hj => ?_⟩, fun _ => ⟨g, _, T, rfl, h1, h2, heap_setCell_same wr _ k cur T _ hg, by simpa using hs, fun j hj => ?_⟩⟩
  · rw [heap_setCell_other wr _ j _ (hj (by omega) g rfl)]
    exact ho.block j hj
  · by_cases e : j = k
    · subst e; simp [show j < cur.size from by omega]
    · rw [Array.getElem?_setIfInBounds_ne (by omega)]
      exact hc j (by omega)
/-- what a mark leaves -/
def Marked (n : Nat) (start : Int) (A : Option Addr) (B E : Nat) (w : World) (e : Ending) (w' : World) : Prop :=
  e = .returned (.int .i64 (start + (n : Int))) ∧ Only n A w w' ∧ OwnC B E w' A (ints (marks start n))
theorem markRel_end {n : Nat} {start : Int} {A : Option Addr} {B E : Nat} {w wr : World} {k : Nat} (hk : ¬ k < n) (hk' : k ≤ n) (ho : Only n A w wr)
    (h : 0 < n → ∃ g cur T, A = some ⟨g, 0, none⟩ ∧ B ≤ g ∧ g < E ∧ wr.heap[g]? = some (.cells cur T (0, 0)) ∧ n ≤ cur.size ∧ ∀ j, j < k → cur[j]? = some (.int .i64 (start + (j : Int)))) :
    Marked n start A B E w (.returned (.int .i64 (start + (k : Int)))) wr := by
  obtain rfl : k = n := by omega
  refine ⟨rfl, ho, fun h0 => ?_⟩
  rw [ints_len, marks_len] at h0
  obtain ⟨g, cur, T, hA, h1, h2, hg, _, hc⟩ := h h0
  refine ⟨g, cur, T, hA, h1, h2, hg, fun i hi => ?_⟩
  rw [ints_len, marks_len] at hi
  rw [ints_get _ _ (by rw [marks_len]; exact hi), gt_marks _ _ _ hi]
  exact hc i hi
set_option maxHeartbeats 400000 in
theorem markInts (w : World) (A : Option Addr) (n c B E : Nat) (start : Int) (cs : List Value) (hA : OwnC B E w A cs) (hn : cs.length = n) (hm : n ≤ 1048576) (hs : 0 ≤ start) (hs' : start ≤ 1099511627776) :
    Calls Try.prog 8 #[.slice A n c, .int .i64 start] w (Marked n start A B E w) := by
  have HA := Lib.hid (markRel_start (start := start) hA hn)
  clear hA hn
  go_enter Try.func8, Try.ntmps8
  go_wp2
  go_loopg [1, 5] n (fun m a i wr => MarkRel n start A B E w m i a wr)
  case atStart => exact HA.out
  case round =>
    clear HA
    obtain ⟨k, hk, hgk, rfl, rfl, ho, hA⟩ := hrel
    have HGK := Lib.hid hgk
    clear hgk
    by_cases hlt : k < n
    · obtain ⟨g, cur, T, rfl, h1, h2, hg, hsz, hc⟩ := hA (by omega)
      have HR := Lib.hid (markRel_step (start := start) hlt ho h1 h2 hg hsz hc)
      obtain ⟨u0, g1⟩ : ∃ u0, wr.cell? ⟨g, k, none⟩ = some u0 := ⟨_, (cell_of_row wr _ k cur T (0, 0) hg).trans (Array.getElem?_eq_getElem (by omega))⟩
      have g2 : wr.frozen? ⟨g, k, none⟩ = false := frozen_of_row wr _ k cur T hg
      clear hA ho h1 h2 hg hsz hc
      go_wp2
      go_roundg (n - (k + 1))
      case measure => rw [HGK.out]; omega
      case rel => exact HR.out
    · have HE := Lib.hid (markRel_end (start := start) hlt hk ho hA)
      clear hA ho
      go_wp2
      go_ret
      exact HE.out
set_option maxHeartbeats 400000 in
theorem heldInts (w : World) (A : Option Addr) (n c : Nat) (start : Int) (hA : RC w A (ints (marks start n))) (hm : n ≤ 1048576) (hs : 0 ≤ start) (hs' : start ≤ 1099511627776) :
    Calls Try.prog 9 #[.slice A n c, .int .i64 start] w fun e w' => e = .returned (.int .i64 (start + (n : Int))) ∧ w = w' := by
  have HA := Lib.hid hA
  clear hA
  go_enter Try.func9, Try.ntmps9
  go_wp2
  go_loopg [1, 5] n (fun m a i wr => ∃ k, k ≤ n ∧ m = n - k ∧ i = .int .i64 (k : Int) ∧ a = .int .i64 (start + (k : Int)) ∧ wr = w)
  case atStart => exact ⟨0, Nat.zero_le _, by omega, rfl, by go_num, rfl⟩
  case round =>
    obtain ⟨k, hk, hgk, rfl, rfl, rfl⟩ := hrel
    have HGK := Lib.hid hgk
    clear hgk
    by_cases hlt : k < n
    · obtain ⟨b, off, rfl, hbl, hcell⟩ := HA.out (by rw [ints_len, marks_len]; omega)
      have h1 := hcell k (by rw [ints_len, marks_len]; exact hlt)
      rw [ints_get _ k (by rw [marks_len]; exact hlt), gt_marks _ _ _ hlt] at h1
      clear hcell
      go_wp2
      go_roundg (n - (k + 1))
      case measure => rw [HGK.out]; omega
      case rel => exact ⟨k + 1, by omega, rfl, by go_num, by go_num, rfl⟩
    · obtain rfl : k = n := by omega
      go_wp2
      go_ret
      exact ⟨rfl, rfl⟩
end Go.Proofs.Ytddmgjcepkimbaa
