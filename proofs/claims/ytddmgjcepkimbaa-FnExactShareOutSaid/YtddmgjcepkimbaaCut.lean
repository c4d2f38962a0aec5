/-
  A region whose order is open and whose last operations stand in one forced order behind all others: the others in whatever order, the last ones as a list behind them. No condition on the program.
-/
import Derived.StillTail
import Derived.Deep.RegionHeld3
import Derived.Test.YtddmgjcepkimbaaOnly
namespace Go.Proofs.Ytddmgjcepkimbaa
set_option linter.unusedVariables false
open Go Go.RowKit
theorem cell_b {W w1 : World} {p : Addr} {v : Value} (hb : Below W.heap.size W w1) (h : W.cell? p = some v) : w1.cell? p = some v :=
  (hb.cell (World.block_lt_of_cell? W p h)).trans h
section
variable {P : Program} {ops : Array Oper} {md : Region.Mode} {Q : Exit → Act → World → Prop}
/-- what is to hold behind the first operations: the last ones are still to come -/
def CutQ (P : Program) (ops : Array Oper) (t : List Oper) (Q : Exit → Act → World → Prop) : Exit → Act → World → Prop
  | .normal, a, w => wpList P ops Q t a w
  | .exit i, a, w => Q (.exit i) a w
  | .goto i, a, w => Q (.goto i) a w
  | .ret, a, w => Q .ret a w
  | .panic c, a, w => Q (.panic c) a w
  | .outgrown, a, w => Q .outgrown a w
theorem wpAny_more (f : Nat) : ∀ (listed : Array Bool) (a : Act) (w : World), wpAny P md ops Q f listed a w → wpAny P md ops Q (f + 1) listed a w := by
  induction f with
  | zero => intro listed a w h; exact ⟨fun _ => h.2, fun i hi => by rw [h.1] at hi; cases hi⟩
  | succ f ih => intro listed a w h; exact ⟨h.1, fun i hi => wpOp_mono (fun a' w' h' => ih _ a' w' h') (h.2 i hi)⟩
theorem wpAny_more_add (f g : Nat) (listed : Array Bool) (a : Act) (w : World) (h : wpAny P md ops Q g listed a w) : wpAny P md ops Q (f + g) listed a w := by
  induction f with
  | zero => rw [Nat.zero_add]; exact h
  | succ f ih => rw [show f + 1 + g = f + g + 1 by omega]; exact wpAny_more _ _ _ _ ih
def headOkB (md : Region.Mode) (ops : Array Oper) (n i : Nat) : Bool :=
  match ops[i]? with
  | some o => (o.after.all fun e => !Region.binds md e || decide (e.on < i)) && (match o.guard with | some (g, _) => decide (g < n) | none => true)
  | none => false
theorem headOk_of {n i : Nat} (h : headOkB md ops n i = true) : ∃ o, ops[i]? = some o ∧ (∀ e ∈ o.after, Region.binds md e = true → e.on < i) ∧ (∀ g b, o.guard = some (g, b) → g < n) := by
  unfold headOkB at h
  split at h
  next o ho =>
    simp only [Bool.and_eq_true] at h
    refine ⟨o, ho, fun e he hb => ?_, fun g b hg => ?_⟩
    · have := Array.all_eq_true_iff_forall_mem.1 h.1 e he
      simpa [hb] using this
    · have := h.2
      rw [hg] at this
      simpa using this
  next => cases h
def cutB (ops : Array Oper) (n : Nat) : Bool :=
  decide (n < ops.size) && Region.sinkB .any ops n && Region.chainB .any ops n && ((List.range n).all (headOkB .any ops n)) && Region.seqB .any ops (ops.size - n) n (Array.replicate n true ++ Array.replicate (ops.size - n) false)
theorem op_cut {opsH : Array Oper} {n i : Nat} {t : List Oper} {K : Act → World → Prop} {a : Act} {w : World} (hH : ∀ j, j < n → opsH[j]? = ops[j]?) (hi : i < n) (hk : headOkB md ops n i = true)
    (h : wpOp P opsH (CutQ P ops t Q) i K a w) : wpOp P ops Q i K a w := by
  obtain ⟨o, ho, _, hg⟩ := headOk_of hk
  have hw : Region.wanted o (yielded opsH a.tmps) = Region.wanted o (yielded ops a.tmps) := by
    unfold Region.wanted
    cases hgd : o.guard with
    | none => rfl
    | some p =>
      obtain ⟨g, b⟩ := p
      have := hg g b hgd
      simp only [yielded, hH g this]
  unfold wpOp at *
  rw [hH i hi, ho] at h
  rw [ho]
  simp only [hw] at h ⊢
  split
  next hw' =>
    rw [if_pos hw'] at h
    refine h.imp (fun h => ?_) (fun h => ⟨h.1, ?_⟩)
    · unfold Oper.wp at *
      generalize (execOp a.eval o).run P w = r at *
      cases r with
      | ok x w' =>
        cases x <;> simp only [Oper.upon] at h ⊢ <;> first | exact h | (refine Calls.mono h fun e w'' he => ?_; cases e <;> exact he)
      | halt x w' => cases x <;> simp only [Oper.upon] at h ⊢ <;> exact h
    · exact h.2
  next hw' =>
    rw [if_neg hw'] at h
    exact h
theorem ready_cut {opsH : Array Oper} {n i : Nat} {listed listedH : Array Bool} (hH : ∀ j, j < n → opsH[j]? = ops[j]?) (hz : opsH.size = n) (hk : ∀ i, i < n → headOkB md ops n i = true)
    (hl : ∀ j, j < n → listed.getD j true = listedH.getD j true) (hl' : ∀ j, j < n → listed.getD j false = listedH.getD j false) :
    i ∈ Region.ready md opsH listedH ↔ i < n ∧ i ∈ Region.ready md ops listed := by
  rw [mem_ready, mem_ready]
  constructor
  · rintro ⟨h1, o, ho, h2⟩
    have hi : i < n := by rw [← hz]; exact (Array.getElem?_eq_some_iff.1 ho).1
    obtain ⟨o', ho', hb, _⟩ := headOk_of (hk i hi)
    rw [hH i hi, ho'] at ho
    cases ho
    exact ⟨hi, by rw [hl i hi]; exact h1, o, ho', fun e he hbi => by rw [hl' _ (by have := hb e he hbi; omega)]; exact h2 e he hbi⟩
  · rintro ⟨hi, h1, o, ho, h2⟩
    obtain ⟨o', ho', hb, _⟩ := headOk_of (hk i hi)
    rw [ho'] at ho
    cases ho
    exact ⟨by rw [← hl i hi]; exact h1, o, by rw [hH i hi]; exact ho', fun e he hbi => by rw [← hl' _ (by have := hb e he hbi; omega)]; exact h2 e he hbi⟩
theorem any_cut {opsH : Array Oper} {n g : Nat} {t : List Oper} (hH : ∀ j, j < n → opsH[j]? = ops[j]?) (hz : opsH.size = n) (hn : n < ops.size) (hg : g = ops.size - n) (hs : Region.sinkB md ops n = true) (hc : Region.chainB md ops n = true)
    (hk : ∀ i, i < n → headOkB md ops n i = true) (hq : Region.seqB md ops g n (Array.replicate n true ++ Array.replicate g false) = true) (ht : ∀ j, t[j]? = ops[n + j]?) (htl : t.length = g) (f : Nat) :
    ∀ (listed listedH : Array Bool) (a : Act) (w : World), HeadInv md ops n listed → listedH.size = n → (∀ j, j < n → listed.getD j true = listedH.getD j true) → (∀ j, j < n → listed.getD j false = listedH.getD j false) →
      wpAny P md opsH (CutQ P ops t Q) f listedH a w → wpAny P md ops Q (f + g) listed a w := by
  have hdone : ∀ (f : Nat) (listed listedH : Array Bool) (a : Act) (w : World), HeadInv md ops n listed → listedH.size = n → (∀ j, j < n → listed.getD j true = listedH.getD j true) → (∀ j, j < n → listed.getD j false = listedH.getD j false) →
      Region.ready md opsH listedH = [] → wpList P ops Q t a w → wpAny P md ops Q (f + g) listed a w := by
    intro f listed listedH a w inv hsz hl hl' hr hw
    have hall : ∀ j, j < n → listed.getD j true = true := by
      intro j
      induction j using Nat.strongRecOn with
      | _ j ih =>
        intro hj
        cases hx : listed.getD j true with
        | true => rfl
        | false =>
          obtain ⟨o, ho, hb, _⟩ := headOk_of (hk j hj)
          have : j ∈ Region.ready md opsH listedH := (ready_cut hH hz hk hl hl').2 ⟨hj, mem_ready.2 ⟨hx, o, ho, fun e he hbi => by
            have h1 := hb e he hbi
            have h2 := ih e.on h1 (by omega)
            have h3 : e.on < listed.size := by rw [inv.size]; omega
            simp [h3] at h2 ⊢
            exact h2⟩⟩
          rw [hr] at this
          cases this
    have he : listed = Array.replicate n true ++ Array.replicate g false := by
      have hls := inv.size
      refine Array.ext (by simp; omega) fun j h1 h2 => ?_
      by_cases hj : j < n
      · have := hall j hj
        simp [h1] at this
        rw [this, Array.getElem_append_left (by simpa using hj)]
        simp
      · have := inv.tail j (by omega) (by omega)
        simp [h1] at this
        rw [this, Array.getElem_append_right (by simp; omega)]
        simp
    refine wpAny_more_add _ _ _ _ _ ?_
    have := wpAny_of_seq (md := md) (Q' := Q) t n listed a w ht (by rw [htl, he]; exact hq) hw
    rwa [htl] at this
  induction f with
  | zero => intro listed listedH a w inv hsz hl hl' h; exact hdone 0 listed listedH a w inv hsz hl hl' h.1 h.2
  | succ f ih =>
    intro listed listedH a w inv hsz hl hl' h
    by_cases hr : Region.ready md opsH listedH = []
    · exact hdone (f + 1) listed listedH a w inv hsz hl hl' hr (h.1 hr)
    · obtain ⟨i0, hi0⟩ := List.exists_mem_of_ne_nil _ hr
      obtain ⟨hin0, hir0⟩ := (ready_cut hH hz hk hl hl').1 hi0
      rw [show f + 1 + g = f + g + 1 by omega]
      refine ⟨fun h0 => (by rw [h0] at hir0; cases hir0), fun i hi => ?_⟩
      have hin : i < n := by
        rcases Nat.lt_or_ge i n with h1 | h1
        · exact h1
        · exact absurd hi (tail_waits hs hc hn inv _ i0 rfl hin0 (mem_ready.1 hir0).1 i h1)
      have hiH := (ready_cut hH hz hk hl hl').2 ⟨hin, hi⟩
      have hls := inv.size
      refine wpOp_mono (fun a' w' h' => ih _ _ a' w' (inv.set hi hin) (by simpa using hsz) (fun j hj => ?_) (fun j hj => ?_) h') (op_cut hH hin (hk i hin) (h.2 i hiH))
      · by_cases hij : i = j
        · subst hij
          simp [hsz, show i < listed.size by omega, hin]
        · rw [getD_set_ne true hij, getD_set_ne true hij]; exact hl j hj
      · by_cases hij : i = j
        · subst hij
          simp [hsz, show i < listed.size by omega, hin]
        · rw [getD_set_ne false hij, getD_set_ne false hij]; exact hl' j hj
/-- the law: the first n operations in whatever order, under a condition on the world that holds till they are done; then the others -/
theorem region_cutH {id : Nat} {a : Act} {w : World} {l : List Oper} {S : World → Prop} (n : Nat) (hm : P.follows .mixedOrders = true) (hB : cutB l.toArray n = true) (hS : S w.drew)
    (h : S w.drew → wpAnyH P .any (l.take n).toArray (CutQ P l.toArray (l.drop n) Q) S n (Array.replicate n false) a w.drew) : (Code.region id l.toArray true).wp P Q a w := by
  simp only [cutB, Bool.and_eq_true, decide_eq_true_eq] at hB
  obtain ⟨⟨⟨⟨hn, hs⟩, hc⟩, hk⟩, hq⟩ := hB
  have hn' : n < l.length := by simpa using hn
  refine wp_region_any hm ?_
  have h1 := wpAny_of_held _ _ _ _ (h hS)
  have inv0 : HeadInv .any l.toArray n (Array.replicate l.toArray.size false) :=
    ⟨by simp, fun j oj _ hl => (by rw [getD_replicate_false] at hl; cases hl), fun t _ ht => getD_in (by simpa using ht) (getD_replicate_false _ _)⟩
  have h2 := any_cut (opsH := (l.take n).toArray) (g := l.toArray.size - n) (t := l.drop n) (fun j hj => by simp [hj]) (by simp; omega) hn rfl hs hc (fun i hi => List.all_eq_true.1 hk i (List.mem_range.2 hi)) hq (fun j => by simp [List.getElem?_drop]) (by simp) n
    (Array.replicate l.toArray.size false) (Array.replicate n false) a w.drew inv0 (by simp) (fun j hj => by simp [hj, show j < l.length by omega]) (fun j hj => by simp [hj, show j < l.length by omega]) h1
  rw [show n + (l.toArray.size - n) = l.toArray.size by omega] at h2
  exact h2
end
end Go.Proofs.Ytddmgjcepkimbaa
