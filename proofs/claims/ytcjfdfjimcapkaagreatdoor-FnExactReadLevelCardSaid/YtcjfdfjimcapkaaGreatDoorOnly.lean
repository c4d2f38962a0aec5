/-
  Words for laws: only the blocks of a range have been written, and new ones have come. No condition.
-/
import Derived.Test.YtcjfdfjimcapkaaGreatDoorHelp
namespace Go.Proofs.YtcjfdfjimcapkaaGreatDoor
set_option linter.unusedVariables false
open Go.RowKit
structure OnlyR (lo hi : Nat) (w w' : World) : Prop where
  os : w'.os = w.os
  tape : w'.tape = w.tape
  output : w'.output = w.output
  size : w.heap.size ≤ w'.heap.size
  block : ∀ j, j < w.heap.size → (j < lo ∨ hi ≤ j) → w'.heap[j]? = w.heap[j]?
theorem Only.r {n B E : Nat} {A : Option Addr} {w w' : World} {cs : List Value} (h : Only n A w w') (ho : OwnC B E w A cs) (hn : n ≤ cs.length) : OnlyR B E w w' :=
  ⟨h.os, h.tape, h.output, Nat.le_of_eq h.size.symm, fun j _ hj => h.block j fun h0 g hA e => by
    obtain ⟨g', _, _, hA', h1, h2, _⟩ := ho (by omega)
    rw [hA] at hA'
    cases hA'
    omega⟩
theorem OnlyR.wide {lo hi lo' hi' : Nat} {w w' : World} (h : OnlyR lo hi w w') (h1 : lo' ≤ lo) (h2 : hi ≤ hi') : OnlyR lo' hi' w w' :=
  ⟨h.os, h.tape, h.output, h.size, fun j hj hk => h.block j hj (by omega)⟩
theorem OnlyR.trans {lo hi : Nat} {w w' w'' : World} (h : OnlyR lo hi w w') (k : OnlyR lo hi w' w'') : OnlyR lo hi w w'' :=
  ⟨k.os.trans h.os, k.tape.trans h.tape, k.output.trans h.output, Nat.le_trans h.size k.size, fun j hj hk => (k.block j (Nat.lt_of_lt_of_le hj h.size) hk).trans (h.block j hj hk)⟩
theorem OnlyR.pre {lo hi : Nat} {w W w' : World} (hb : Below w.heap.size w W) (h : OnlyR lo hi W w') : OnlyR lo hi w w' :=
  ⟨h.os.trans hb.os, h.tape.trans hb.tape, h.output.trans hb.output, Nat.le_trans hb.size h.size, fun j hj hne => (h.block j (Nat.lt_of_lt_of_le hj hb.size) hne).trans (hb.block j hj)⟩
theorem OnlyR.below {B lo hi : Nat} {w w' : World} (h : OnlyR lo hi w w') (hB : B ≤ lo) (hB' : B ≤ w.heap.size) : Below B w w' :=
  ⟨h.os, h.tape, h.output, h.size, fun j hj => h.block j (by omega) (.inl (by omega))⟩
theorem OwnC.onlyR {B E lo hi : Nat} {A : Option Addr} {w w' : World} {cs : List Value} (h : OwnC B E w A cs) (ho : OnlyR lo hi w w') (hd : E ≤ lo ∨ hi ≤ B) : OwnC B E w' A cs := fun h0 => by
  obtain ⟨g, cur, T, rfl, h1, h2, hg, hc⟩ := h h0
  exact ⟨g, cur, T, rfl, h1, h2, (ho.block g (Array.getElem?_eq_some_iff.1 hg).1 (by omega)).trans hg, hc⟩
theorem keep_onlyR {lo hi g : Nat} {w w' : World} {o : Obj} (h : w.heap[g]? = some o) (ho : OnlyR lo hi w w') (hd : g < lo ∨ hi ≤ g) : w'.heap[g]? = some o :=
  (ho.block g (Array.getElem?_eq_some_iff.1 h).1 hd).trans h
theorem row_one {w : World} {g : Nat} {x : Value} {t : TypeId} (h : w.heap[g]? = some (.cells #[x] t (0, 0))) : w.cell? ⟨g, 0, none⟩ = some x ∧ g < w.heap.size :=
  ⟨cell_of_row w g 0 _ _ _ h, (Array.getElem?_eq_some_iff.1 h).1⟩
theorem blk_lt {w : World} {g : Nat} {o : Obj} (h : w.heap[g]? = some o) : g < w.heap.size := (Array.getElem?_eq_some_iff.1 h).1
/-- a list of the call's own that lies behind blocks that stay -/
theorem app_keep {W w1 : World} {B T g n sz : Nat} {v : Value} {xs : List Value} {o : Obj} (hown : W.ownsRow B T sz v n xs) (hg : W.grownBy w1 v.ownBlock) (hk : W.heap[g]? = some o) (hB : g < B) : w1.heap[g]? = some o :=
  (hg.block g (Array.getElem?_eq_some_iff.1 hk).1 (fun e => by have := (hown.lt g e.symm).1; omega)).trans hk
theorem own_litB {W : World} (T : TypeId) (B : Nat) (hB : B ≤ W.heap.size) : (W.alloc (.cells #[] T)).ownsRow B T 1 (.slice (some ⟨W.heap.size, 0, none⟩) 0 0) 0 (ints []) :=
  World.ownsRow_lit (e := T) (size := 1) W #[] 0 hB (Nat.zero_le _) rfl
theorem own_base {W : World} {B B' T n sz : Nat} {v : Value} {xs : List Value} (h : W.ownsRow B T sz v n xs) (hB : B' ≤ B) : W.ownsRow B' T sz v n xs := by
  refine ⟨h.1, ?_⟩
  rcases h.2 with hn | ⟨g, cap, cur, h1, h2, h3⟩
  · exact .inl hn
  · exact .inr ⟨g, cap, cur, h1, by omega, h3⟩
theorem app_belowB {w W w1 : World} {B T n sz : Nat} {v : Value} {xs : List Value} (hW : Below w.heap.size w W) (hown : W.ownsRow B T sz v n xs) (hB : w.heap.size ≤ B) (hg : W.grownBy w1 v.ownBlock) : Below w.heap.size w w1 :=
  hW.grown hg hW.size (fun k hk => by have := (hown.lt k hk).1; omega)
/-- a list that the call has appended, as a list of its own behind B -/
theorem own_endB {wr : World} {B T : Nat} {v : Value} {xs : List Int} (hown : wr.ownsRow B T 1 v xs.length (ints xs)) :
    ∃ A c, v = .slice A xs.length c ∧ OwnC B wr.heap.size wr A (ints xs) := by
  rcases hown.2 with ⟨rfl, h0⟩ | ⟨g, cap, cur, rfl, hb, hg, hn, hm, hs, ht⟩
  · refine ⟨none, 0, by rw [h0], ?_⟩
    intro h
    rw [ints_len, h0] at h
    exact absurd h (by omega)
  · refine ⟨_, _, rfl, fun _ => ⟨g, cur, T, rfl, hb, (Array.getElem?_eq_some_iff.1 hg).1, hg, fun i hi => ?_⟩⟩
    rw [ints_len] at hi
    rw [← ht, List.getElem?_take, if_pos (by omega)]
    simp
/-- two slices begin in different blocks -/
def Apart (A A' : Option Addr) : Prop := ∀ a a', A = some a → A' = some a' → a.block ≠ a'.block
theorem Apart.none (A : Option Addr) : Apart none A := fun a a' h _ => by cases h
theorem OwnC.apart {B E n : Nat} {A A' : Option Addr} {w w' : World} {cs : List Value} (h : OwnC B E w A' cs) (ho : Only n A w w') (hd : Apart A A') : OwnC B E w' A' cs := fun h0 => by
  obtain ⟨g, cur, T, rfl, h1, h2, hg, hc⟩ := h h0
  refine ⟨g, cur, T, rfl, h1, h2, ?_, hc⟩
  rw [ho.block g fun hn0 g' hA e => ?_]
  · exact hg
  · exact hd _ _ hA rfl e.symm
theorem kb_set {w : World} {p : Addr} {u : Value} {g : Nat} {o : Obj} (h : w.heap[g]? = some o) (hne : g ≠ p.block) : (w.setCell p u).heap[g]? = some o := (Below.heap_setCell w p u g hne).trans h
theorem blk_drew {w : World} {o : Obj} {g : Nat} (h : w.heap[g]? = some o) : w.drew.heap[g]? = some o := h
/-- a cell that stays: behind a new block, a draw, a store into another block -/
theorem kc_alloc {w : World} {q : Addr} {x : Value} {o : Obj} (h : w.cell? q = some x) : (w.alloc o).cell? q = some x := by
  have hlt := World.block_lt_of_cell? w q h
  exact (World.cell?_of_block (Below.heap_alloc w o q.block hlt)).trans h
theorem kc_drew {w : World} {q : Addr} {x : Value} (h : w.cell? q = some x) : w.drew.cell? q = some x := h
theorem kc_drewN {w : World} {q : Addr} {x : Value} {n : Nat} (h : w.cell? q = some x) : (w.drewN n).cell? q = some x := h
theorem kc_set {w : World} {q p : Addr} {x u : Value} (h : w.cell? q = some x) (hne : q.block ≠ p.block) : (w.setCell p u).cell? q = some x :=
  (World.cell?_of_block (Below.heap_setCell w p u q.block hne)).trans h
end Go.Proofs.YtcjfdfjimcapkaaGreatDoor
