/-
  Contracts on lands: copies, comparisons and marks of the statements, validity, heights, volumes, cells. They hold for every land of at most 1048576 heights.
-/
import Derived.Test.YtfkleaagpflpkaaHelp
import Derived.Test.YtfkleaagpflpkaaLandPlain
import Derived.Test.YtfkleaagpflpkaaBasic
namespace Go.Proofs.Ytfkleaagpflpkaa
set_option linter.unusedVariables false
open Go.RowKit
/-- a call that makes a new land; with a code; with a number and a code -/
def NewLand (r c : Int) (hs : List Int) (w : World) (e : Ending) (w' : World) : Prop :=
  ∃ A k, e = .returned (.agg #[.int .i64 r, .int .i64 c, .slice A hs.length k]) ∧ OwnC w.heap.size w'.heap.size w' A (ints hs) ∧ Below w.heap.size w w'
def NewLandC (r c : Int) (hs : List Int) (code : Int) (w : World) (e : Ending) (w' : World) : Prop :=
  ∃ A k, e = .returned (.tuple #[.agg #[.int .i64 r, .int .i64 c, .slice A hs.length k], .int .i64 code]) ∧ OwnC w.heap.size w'.heap.size w' A (ints hs) ∧ Below w.heap.size w w'
def NewLandCC (r c : Int) (hs : List Int) (x code : Int) (w : World) (e : Ending) (w' : World) : Prop :=
  ∃ A k, e = .returned (.tuple #[.agg #[.int .i64 r, .int .i64 c, .slice A hs.length k], .int .i64 x, .int .i64 code]) ∧ OwnC w.heap.size w'.heap.size w' A (ints hs) ∧ Below w.heap.size w w'
/-- only the block where a slice of n cells begins has been written, and new blocks have come -/
structure OnlyG (n : Nat) (A : Option Addr) (w w' : World) : Prop where
  os : w'.os = w.os
  tape : w'.tape = w.tape
  output : w'.output = w.output
  size : w.heap.size ≤ w'.heap.size
  block : ∀ j, j < w.heap.size → (0 < n → ∀ g, A = some ⟨g, 0, none⟩ → j ≠ g) → w'.heap[j]? = w.heap[j]?
theorem Only.g {n : Nat} {A : Option Addr} {w w' : World} (h : Only n A w w') : OnlyG n A w w' := ⟨h.os, h.tape, h.output, Nat.le_of_eq h.size.symm, fun j _ => h.block j⟩
theorem OnlyG.pre {n : Nat} {A : Option Addr} {w W w' : World} (hb : Below w.heap.size w W) (h : OnlyG n A W w') : OnlyG n A w w' :=
  ⟨h.os.trans hb.os, h.tape.trans hb.tape, h.output.trans hb.output, Nat.le_trans hb.size h.size, fun j hj hne => (h.block j (Nat.lt_of_lt_of_le hj hb.size) hne).trans (hb.block j hj)⟩
theorem OnlyG.below {n B E : Nat} {A : Option Addr} {w w' : World} {cs : List Value} (h : OnlyG n A w w') (ho : OwnC B E w A cs) (hn : n ≤ cs.length) (hB : B ≤ w.heap.size) : Below B w w' :=
  ⟨h.os, h.tape, h.output, h.size, fun j hj => h.block j (by omega) fun h0 g hA e => by
    obtain ⟨g', _, _, hA', h1, _⟩ := ho (by omega)
    rw [hA] at hA'
    cases hA'
    omega⟩
theorem OwnC.onlyG {n B E B' E' : Nat} {A A' : Option Addr} {w w' : World} {cs cs' : List Value} (h : OwnC B E w A cs) (ho : OnlyG n A' w w') (h' : OwnC B' E' w A' cs') (hn : n ≤ cs'.length)
    (hd : E ≤ B' ∨ E' ≤ B) : OwnC B E w' A cs := fun h0 => by
  obtain ⟨g, cur, T, rfl, h1, h2, hg, hc⟩ := h h0
  refine ⟨g, cur, T, rfl, h1, h2, ?_, hc⟩
  rw [ho.block g (Array.getElem?_eq_some_iff.1 hg).1 fun hn0 g' hA e => ?_]
  · exact hg
  · obtain ⟨g2, _, _, hA', h3, h4, _⟩ := h' (by omega)
    rw [hA] at hA'
    cases hA'
    omega
theorem keep_only {n B E g : Nat} {A : Option Addr} {w w' : World} {cs : List Value} {o : Obj} (h : w.heap[g]? = some o) (ho : OnlyG n A w w') (h' : OwnC B E w A cs) (hn : n ≤ cs.length) (hd : g < B ∨ E ≤ g) : w'.heap[g]? = some o := by
  rw [ho.block g (Array.getElem?_eq_some_iff.1 h).1 fun hn0 g' hA e => ?_]
  · exact h
  · obtain ⟨g2, _, _, hA', h3, h4, _⟩ := h' (by omega)
    rw [hA] at hA'
    cases hA'
    omega
def MarkedG (n : Nat) (start : Int) (A : Option Addr) (B E : Nat) (w : World) (e : Ending) (w' : World) : Prop :=
  e = .returned (.int .i64 (start + (n : Int))) ∧ OnlyG n A w w' ∧ OwnC B E w' A (ints (marks start n))

theorem size_any (w : World) (A : Option Addr) (n c : Nat) : Calls Try.prog 25 #[.slice A n c] w fun e w' => e = .returned (.int .i64 (n : Int)) ∧ w = w' := by
  go_enter Try.func25, Try.ntmps25
  go_wp2
  go_ret
  exact ⟨rfl, rfl⟩
theorem in_lit {n lo hi : Int} {b : Bool} (h : inR n lo hi = b) (w : World) : Calls Try.prog 23 #[.int .i64 n, .int .i64 lo, .int .i64 hi] w fun e w' => e = .returned (.bool b) ∧ w = w' :=
  (in_any n lo hi w).mono fun _ _ ⟨he, hw⟩ => ⟨he.trans (ret_bool h), hw⟩
theorem l00In_lit {n lo hi : Int} {b : Bool} (h : inR n lo hi = b) (w : World) : Calls Try.prog 21 #[.int .i64 n, .int .i64 lo, .int .i64 hi] w fun e w' => e = .returned (.bool b) ∧ w = w' :=
  (l00In_any n lo hi w).mono fun _ _ ⟨he, hw⟩ => ⟨he.trans (ret_bool h), hw⟩
end Go.Proofs.Ytfkleaagpflpkaa
