/-
  Words for laws: only the blocks of a range have been written, and new ones have come. No condition.
-/
import Derived.Test.YtnhdhjijdcdilaaHelp
namespace Go.Proofs.Ytnhdhjijdcdilaa
open Go.RowKit
structure OnlyR (lo hi : Nat) (w w' : World) : Prop where
  os : w'.os = w.os
  tape : w'.tape = w.tape
  output : w'.output = w.output
  size : w.heap.size ≤ w'.heap.size
  block : ∀ j, j < w.heap.size → (j < lo ∨ hi ≤ j) → w'.heap[j]? = w.heap[j]?
theorem Only.r {n B E : Nat} {A : Option Addr} {w w' : World} {cs : List Value} (h : Only n A w w') (ho : OwnC B E w A cs) (hn : n ≤ cs.length) : OnlyR B E w w' :=
  ⟨h.os, h.tape, h.output, Nat.le_of_eq h.size.symm, fun j _ hj => h.block j fun h0 g hA e => by
    obtain ⟨g', _, _, hA', h1, h2, _⟩ := ho (by omega)
    rw [hA] at hA'
    cases hA'
    omega⟩
theorem OnlyR.wide {lo hi lo' hi' : Nat} {w w' : World} (h : OnlyR lo hi w w') (h1 : lo' ≤ lo) (h2 : hi ≤ hi') : OnlyR lo' hi' w w' :=
  ⟨h.os, h.tape, h.output, h.size, fun j hj hk => h.block j hj (by omega)⟩
theorem OnlyR.trans {lo hi : Nat} {w w' w'' : World} (h : OnlyR lo hi w w') (k : OnlyR lo hi w' w'') : OnlyR lo hi w w'' :=
  ⟨k.os.trans h.os, k.tape.trans h.tape, k.output.trans h.output, Nat.le_trans h.size k.size, fun j hj hk => (k.block j (Nat.lt_of_lt_of_le hj h.size) hk).trans (h.block j hj hk)⟩
theorem OnlyR.pre {lo hi : Nat} {w W w' : World} (hb : Below w.heap.size w W) (h : OnlyR lo hi W w') : OnlyR lo hi w w' :=
  ⟨h.os.trans hb.os, h.tape.trans hb.tape, h.output.trans hb.output, Nat.le_trans hb.size h.size, fun j hj hne => (h.block j (Nat.lt_of_lt_of_le hj hb.size) hne).trans (hb.block j hj)⟩
theorem OnlyR.below {B lo hi : Nat} {w w' : World} (h : OnlyR lo hi w w') (hB : B ≤ lo) (hB' : B ≤ w.heap.size) : Below B w w' :=
  ⟨h.os, h.tape, h.output, h.size, fun j hj => h.block j (by omega) (.inl (by omega))⟩
theorem OwnC.onlyR {B E lo hi : Nat} {A : Option Addr} {w w' : World} {cs : List Value} (h : OwnC B E w A cs) (ho : OnlyR lo hi w w') (hd : E ≤ lo ∨ hi ≤ B) : OwnC B E w' A cs := fun h0 => by
  obtain ⟨g, cur, T, rfl, h1, h2, hg, hc⟩ := h h0
  exact ⟨g, cur, T, rfl, h1, h2, (ho.block g (Array.getElem?_eq_some_iff.1 hg).1 (by omega)).trans hg, hc⟩
theorem keep_onlyR {lo hi g : Nat} {w w' : World} {o : Obj} (h : w.heap[g]? = some o) (ho : OnlyR lo hi w w') (hd : g < lo ∨ hi ≤ g) : w'.heap[g]? = some o :=
  (ho.block g (Array.getElem?_eq_some_iff.1 h).1 hd).trans h
theorem row_one {w : World} {g : Nat} {x : Value} {t : TypeId} (h : w.heap[g]? = some (.cells #[x] t (0, 0))) : w.cell? ⟨g, 0, none⟩ = some x ∧ g < w.heap.size :=
  ⟨cell_of_row w g 0 _ _ _ h, (Array.getElem?_eq_some_iff.1 h).1⟩
theorem blk_lt {w : World} {g : Nat} {o : Obj} (h : w.heap[g]? = some o) : g < w.heap.size := (Array.getElem?_eq_some_iff.1 h).1
end Go.Proofs.Ytnhdhjijdcdilaa
