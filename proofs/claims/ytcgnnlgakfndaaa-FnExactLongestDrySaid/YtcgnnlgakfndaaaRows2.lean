/-
  Words for a list of rows that a call makes: each row a block of two numbers, the rows' slices in a list of the call's own. No condition.
-/
import Derived.Test.YtcgnnlgakfndaaaOnly
import Derived.Test.YtcgnnlgakfndaaaDryPlain
import Derived.Deep.AppendLies
namespace Go.Proofs.Ytcgnnlgakfndaaa
set_option linter.unusedVariables false
open Go.RowKit
/-- the i-th number of a list of blocks -/
def gn (gs : List Nat) (i : Nat) : Nat := gs.getD i 0
theorem gn_snoc_lt (l : List Nat) (x : Nat) (i : Nat) (h : i < l.length) : gn (l ++ [x]) i = gn l i := by simp [gn, List.getD_eq_getElem?_getD, List.getElem?_append_left h]
theorem gn_snoc_eq (l : List Nat) (x : Nat) : gn (l ++ [x]) l.length = x := by simp [gn, List.getD_eq_getElem?_getD]
def rws (gs : List Nat) : List Value := gs.map fun g => .slice (some ⟨g, 0, none⟩) 2 2
theorem rws_len (gs : List Nat) : (rws gs).length = gs.length := by simp [rws]
theorem rws_get (gs : List Nat) (i : Nat) (h : i < gs.length) : (rws gs)[i]? = some (.slice (some ⟨gn gs i, 0, none⟩) 2 2) := by simp [rws, gn, List.getElem?_eq_getElem h]
/-- the rows: n of them, their slices in the list that begins block g0; the second number of row j is number j of ls -/
structure Rws (w : World) (B T T2 g0 n c : Nat) (gs : List Nat) (ls : List Int) : Prop where
  own : w.ownsRow B T 1 (.slice (some ⟨g0, 0, none⟩) n c) n (rws gs)
  gl : gs.length = n
  ll : ls.length = n
  row : ∀ j, j < n → ∃ x, w.heap[gn gs j]? = some (.cells #[.int .i64 x, .int .i64 (gt ls j)] T2 (0, 0))
  lo : ∀ j, j < n → B ≤ gn gs j
  inj : ∀ i j, i < j → j < n → gn gs i ≠ gn gs j
  far : ∀ j, j < n → gn gs j ≠ g0
section
variable {w w1 : World} {B T T2 g0 n c : Nat} {gs : List Nat} {ls : List Int}
theorem Rws.start (W : World) {T T2 g : Nat} (hg : W.heap.size = g) : Rws (W.alloc (.cells #[] T)) g T T2 g 0 0 [] [] := by
  subst hg
  exact ⟨World.ownsRow_lit (e := T) (size := 1) W #[] 0 (Nat.le_refl _) (Nat.zero_le _) rfl, rfl, rfl, fun j hj => absurd hj (by omega), fun j hj => absurd hj (by omega), fun i j _ hj => absurd hj (by omega), fun j hj => absurd hj (by omega)⟩
theorem Rws.cell (h : Rws w B T T2 g0 n c gs ls) {j : Nat} (hj : j < n) : w.cell? ⟨g0, j, none⟩ = some (.slice (some ⟨gn gs j, 0, none⟩) 2 2) := by
  rw [h.own.cellAt j (by omega), rws_get gs j (by rw [h.gl]; exact hj)]
theorem Rws.len (h : Rws w B T T2 g0 n c gs ls) {j : Nat} (hj : j < n) : w.cell? ⟨gn gs j, 1, none⟩ = some (.int .i64 (gt ls j)) ∧ w.frozen? ⟨gn gs j, 1, none⟩ = false := by
  obtain ⟨x, hx⟩ := h.row j hj
  exact ⟨cell_of_row w _ 1 _ _ _ hx, frozen_of_row w _ 1 _ _ hx⟩
/-- one more row -/
theorem Rws.push {H g2 cap : Nat} {x y : Int} {W : World} (h : Rws w B T T2 g0 n c gs ls) (hW : W = (w.alloc (.cells #[.int .i64 x, .int .i64 y] T2)).alloc (.cells #[.slice (some ⟨w.heap.size, 0, none⟩) 2 2] T)) (hB : B ≤ w.heap.size)
    (hown : w1.ownsRow B T 1 (.slice (some ⟨g2, 0, none⟩) (n + 1) cap) (n + 1) (rws gs ++ [.slice (some ⟨w.heap.size, 0, none⟩) 2 2])) (hg : W.grownBy w1 (some g0)) (hat : some g0 = some g2 ∨ g2 = H) (hH : W.heap.size = H) :
    Rws w1 B T T2 g2 (n + 1) cap (gs ++ [w.heap.size]) (ls ++ [y]) := by
  have hlt : g0 < w.heap.size := (h.own.lt g0 rfl).2
  have hWs : W.heap.size = w.heap.size + 2 := by rw [hW]; simp
  have hrl : ∀ j, j < n → gn gs j < w.heap.size := fun j hj => by
    obtain ⟨_, hx⟩ := h.row j hj
    exact (Array.getElem?_eq_some_iff.1 hx).1
  have gl := h.gl
  have ll := h.ll
  have hk : ∀ (b : Nat) (o : Obj), b ≠ g0 → W.heap[b]? = some o → w1.heap[b]? = some o := fun b o hb hx =>
    (hg.block b (Array.getElem?_eq_some_iff.1 hx).1 (fun e => hb (Option.some.inj e))).trans hx
  have g2n : ∀ b, b ≠ g0 → b < W.heap.size → b ≠ g2 := fun b hb hbl => by
    rcases hat with e | e
    · cases e; exact hb
    · omega
  refine ⟨by simpa [rws] using hown, by simp [gl], by simp [ll], fun j hj => ?_, fun j hj => ?_, fun i j hij hj => ?_, fun j hj => ?_⟩
  · by_cases e : j = n
    · subst e
      refine ⟨x, ?_⟩
      rw [← gl, gn_snoc_eq, gl, ← ll, gt_snoc_eq]
      exact hk _ _ (by omega) (by rw [hW]; exact blk_old (blk_new rfl))
    · obtain ⟨x', hx⟩ := h.row j (by omega)
      refine ⟨x', ?_⟩
      rw [gn_snoc_lt _ _ _ (by omega), gt_snoc_lt _ _ _ (by omega)]
      exact hk _ _ (h.far j (by omega)) (by rw [hW]; exact blk_old (blk_old hx))
  · by_cases e : j = n
    · subst e; rw [← gl, gn_snoc_eq]; exact hB
    · rw [gn_snoc_lt _ _ _ (by omega)]; exact h.lo j (by omega)
  · rw [gn_snoc_lt _ _ i (by omega)]
    by_cases e : j = n
    · subst e
      rw [show gn (gs ++ [w.heap.size]) j = w.heap.size from by rw [← gl, gn_snoc_eq]]
      have := hrl i hij; omega
    · rw [gn_snoc_lt _ _ _ (by omega)]; exact h.inj i j hij (by omega)
  · by_cases e : j = n
    · subst e
      rw [← gl, gn_snoc_eq]
      exact g2n _ (by omega) (by omega)
    · rw [gn_snoc_lt _ _ _ (by omega)]
      exact g2n _ (h.far j (by omega)) (by have := hrl j (by omega); omega)
/-- the last row's number written anew -/
theorem Rws.bump (h : Rws w B T T2 g0 n c gs ls) (hn : 0 < n) (y : Int) : Rws (w.setCell ⟨gn gs (n - 1), 1, none⟩ (.int .i64 y)) B T T2 g0 n c gs (ls.set (n - 1) y) := by
  have ll := h.ll
  refine ⟨?_, h.gl, by simp [ll], fun j hj => ?_, h.lo, h.inj, h.far⟩
  · refine ⟨h.own.1, ?_⟩
    rcases h.own.2 with hn' | ⟨g, cap, cur, e, hb, hg, rest⟩
    · exact .inl hn'
    · refine .inr ⟨g, cap, cur, e, hb, (Below.heap_setCell w _ _ g ?_).trans hg, rest⟩
      cases e
      exact fun e => h.far (n - 1) (by omega) e.symm
  · obtain ⟨x, hx⟩ := h.row j hj
    refine ⟨x, ?_⟩
    rw [gt_setL _ _ _ _ (by omega)]
    by_cases e : j = n - 1
    · subst e
      rw [if_pos rfl]
      exact heap_setCell_same w _ 1 _ _ _ hx
    · rw [if_neg e]
      exact (Below.heap_setCell w _ _ _ (fun e' => h.inj j (n - 1) (by omega) (by omega) e')).trans hx
theorem Rws.below (h : Rws w B T T2 g0 n c gs ls) (hb : Below w.heap.size w w1) : Rws w1 B T T2 g0 n c gs ls := by
  have g1 : w.grownBy w1 none := ⟨hb.os, hb.tape, hb.output, hb.size, fun k hk _ => hb.block k hk⟩
  exact ⟨h.own.kept g1 (.inr (by simp [Value.ownBlock])), h.gl, h.ll, fun j hj => by
    obtain ⟨x, hx⟩ := h.row j hj
    exact ⟨x, keep_blk (hb := hb) (h := hx)⟩, h.lo, h.inj, h.far⟩
/-- a call that makes rows -/
def NewRows (T T2 : Nat) (ls : List Int) (w : World) (e : Ending) (w' : World) : Prop :=
  ∃ g0 n c gs, e = .returned (.slice (some ⟨g0, 0, none⟩) n c) ∧ Rws w' w.heap.size T T2 g0 n c gs ls ∧ Below w.heap.size w w'
end
end Go.Proofs.Ytcgnnlgakfndaaa
