/-
  Contracts of the statements' own helpers on lists of numbers: a copy, a comparison, the marks. They hold for every list of at most 1048576 numbers.
-/
import Derived.Test.YtcjfdfjimcapkaaGreatDoorRows
import Derived.Test.YtcjfdfjimcapkaaGreatDoorWords
import Derived.Deep.QuietTactic
import Derived.BigQuiet
namespace Go.Proofs.YtcjfdfjimcapkaaGreatDoor
set_option linter.unusedVariables false
open Go.RowKit

/-- a quiet call in a region that draws its order, behind earlier draws and without -/
theorem quiet_add_eq {P : Program} {f : FuncId} {args : Array Value} {w : World} {a n : Nat} {v : Value}
    (h : Calls P f args (w.drewN (a + n)) fun e w' => e = .returned v ∧ w.drewN (a + n) = w') : Calls P f args (w.drewN (a + n)) fun e w'' => e = .returned v ∧ ∃ m, w'' = w.drewN (a + m) :=
  h.mono fun _ _ ⟨he, hm⟩ => ⟨he, n, hm.symm⟩
theorem quiet_eq {P : Program} {f : FuncId} {args : Array Value} {w : World} {n : Nat} {v : Value}
    (h : Calls P f args (w.drewN n) fun e w' => e = .returned v ∧ w.drewN n = w') : Calls P f args (w.drewN n) fun e w'' => e = .returned v ∧ ∃ m, w'' = w.drewN m :=
  h.mono fun _ _ ⟨he, hm⟩ => ⟨he, n, hm.symm⟩
theorem infoInt : (Tryz.prog.info? 2).map (fun i => (i.zero, i.size, i.bytes)) = some (some (.int .i64 0), 1, 8) := by kernel_rfl

/-- the loop that copies: the first k cells are there -/
def ToRel (zs : List Int) (w : World) (m : Nat) (i : Value) (wr : World) : Prop :=
  ∃ k, k ≤ zs.length ∧ m = zs.length - k ∧ i = .int .i64 (k : Int) ∧
    (∃ cur T, wr.heap[w.heap.size]? = some (.cells cur T (0, 0)) ∧ cur.size = zs.length ∧ ∀ j, j < k → cur[j]? = some (.int .i64 (gt zs j))) ∧ Below w.heap.size w wr
theorem toRel_step {zs : List Int} {w wr : World} {k : Nat} {cur : Array Value} {T : TypeId} (hk : k < zs.length) (hg : wr.heap[w.heap.size]? = some (.cells cur T (0, 0))) (hs : cur.size = zs.length)
    (hc : ∀ j, j < k → cur[j]? = some (.int .i64 (gt zs j))) (hb : Below w.heap.size w wr) :
    ToRel zs w (zs.length - (k + 1)) (.int .i64 (((k + 1 : Nat)) : Int)) (wr.setCell ⟨w.heap.size, k, none⟩ (.int .i64 (gt zs k))) := by
  refine ⟨k + 1, by omega, rfl, rfl, ⟨_, T, heap_setCell_same wr _ k cur T _ hg, by simp [hs], fun j hj => ?_⟩, hb.setCell (Nat.le_refl _) _⟩
  by_cases e : j = k
  · subst e; simp [hs, hk]
  · rw [Array.getElem?_setIfInBounds_ne (by omega)]
    exact hc j (by omega)
theorem toRel_end {zs : List Int} {w wr : World} {cur : Array Value} {T : TypeId} {k : Nat} (hk : ¬ k < zs.length) (hg : wr.heap[w.heap.size]? = some (.cells cur T (0, 0)))
    (hc : ∀ j, j < k → cur[j]? = some (.int .i64 (gt zs j))) (hb : Below w.heap.size w wr) :
    NewInts zs w (.returned (.slice (some ⟨w.heap.size, 0, none⟩) zs.length zs.length)) wr :=
  ⟨_, _, rfl, fun _ => ⟨w.heap.size, cur, T, rfl, Nat.le_refl _, (Array.getElem?_eq_some_iff.1 hg).1, hg, fun i hi => by
    rw [ints_len] at hi
    rw [ints_get zs i hi]
    exact hc i (by omega)⟩, hb⟩
theorem toRel_start (zs : List Int) (w : World) (c : Array Value) (T : TypeId) (hc : c.size = zs.length) : ToRel zs w zs.length (.int .i64 0) (w.alloc (.cells c T)) :=
  ⟨0, Nat.zero_le _, by omega, rfl, ⟨c, T, heap_alloc_new w _, hc, fun j hj => absurd hj (by omega)⟩, (Below.refl _ _).alloc (Nat.le_refl _) _⟩



/-- the loop that marks: the first k cells hold the numbers from 'at' on -/
def MarkRel (n : Nat) (start : Int) (A : Option Addr) (B E : Nat) (w : World) (m : Nat) (i at' : Value) (wr : World) : Prop :=
  ∃ k, k ≤ n ∧ m = n - k ∧ i = .int .i64 (k : Int) ∧ at' = .int .i64 (start + (k : Int)) ∧ Only n A w wr ∧
    (0 < n → ∃ g cur T, A = some ⟨g, 0, none⟩ ∧ B ≤ g ∧ g < E ∧ wr.heap[g]? = some (.cells cur T (0, 0)) ∧ n ≤ cur.size ∧ ∀ j, j < k → cur[j]? = some (.int .i64 (start + (j : Int))))
theorem markRel_start {n : Nat} {start : Int} {A : Option Addr} {B E : Nat} {w : World} {cs : List Value} (h : OwnC B E w A cs) (hn : cs.length = n) : MarkRel n start A B E w n (.int .i64 0) (.int .i64 start) w :=
  ⟨0, Nat.zero_le _, by omega, rfl, by simp, Only.refl _ _ _, fun h0 => by
    obtain ⟨g, cur, T, hA, h1, h2, hg, hc⟩ := h (by omega)
    refine ⟨g, cur, T, hA, h1, h2, hg, ?_, fun j hj => absurd hj (by omega)⟩
    rcases Nat.lt_or_ge cur.size n with hlt | hge
    · have := hc cur.size (by omega)
      rw [Array.getElem?_eq_none (Nat.le_refl _), List.getElem?_eq_getElem (by omega)] at this
      cases this
    · exact hge⟩
theorem markRel_step {n : Nat} {start : Int} {B E : Nat} {w wr : World} {k g : Nat} {cur : Array Value} {T : TypeId} (hk : k < n) (ho : Only n (some ⟨g, 0, none⟩) w wr) (h1 : B ≤ g) (h2 : g < E)
    (hg : wr.heap[g]? = some (.cells cur T (0, 0))) (hs : n ≤ cur.size) (hc : ∀ j, j < k → cur[j]? = some (.int .i64 (start + (j : Int)))) :
    MarkRel n start (some ⟨g, 0, none⟩) B E w (n - (k + 1)) (.int .i64 ((k : Int) + 1)) (.int .i64 (start + (k : Int) + 1)) (wr.setCell ⟨g, k, none⟩ (.int .i64 (start + (k : Int)))) := by
  refine ⟨k + 1, by omega, rfl, by go_num, by go_num, ⟨ho.os, ho.tape, ho.output, by simpa using ho.size, fun j hj => ?_⟩, fun _ => ⟨g, _, T, rfl, h1, h2, heap_setCell_same wr _ k cur T _ hg, by simpa using hs, fun j hj => ?_⟩⟩
  · rw [heap_setCell_other wr _ j _ (hj (by omega) g rfl)]
    exact ho.block j hj
  · by_cases e : j = k
    · subst e; simp [show j < cur.size from by omega]
    · rw [Array.getElem?_setIfInBounds_ne (by omega)]
      exact hc j (by omega)
/-- what a mark leaves -/
def Marked (n : Nat) (start : Int) (A : Option Addr) (B E : Nat) (w : World) (e : Ending) (w' : World) : Prop :=
  e = .returned (.int .i64 (start + (n : Int))) ∧ Only n A w w' ∧ OwnC B E w' A (ints (marks start n))
theorem markRel_end {n : Nat} {start : Int} {A : Option Addr} {B E : Nat} {w wr : World} {k : Nat} (hk : ¬ k < n) (hk' : k ≤ n) (ho : Only n A w wr)
    (h : 0 < n → ∃ g cur T, A = some ⟨g, 0, none⟩ ∧ B ≤ g ∧ g < E ∧ wr.heap[g]? = some (.cells cur T (0, 0)) ∧ n ≤ cur.size ∧ ∀ j, j < k → cur[j]? = some (.int .i64 (start + (j : Int)))) :
    Marked n start A B E w (.returned (.int .i64 (start + (k : Int)))) wr := by
  obtain rfl : k = n := by omega
  refine ⟨rfl, ho, fun h0 => ?_⟩
  rw [ints_len, marks_len] at h0
  obtain ⟨g, cur, T, hA, h1, h2, hg, _, hc⟩ := h h0
  refine ⟨g, cur, T, hA, h1, h2, hg, fun i hi => ?_⟩
  rw [ints_len, marks_len] at hi
  rw [ints_get _ _ (by rw [marks_len]; exact hi), gt_marks _ _ _ hi]
  exact hc i hi
end Go.Proofs.YtcjfdfjimcapkaaGreatDoor
