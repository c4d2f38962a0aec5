/-
  An argument that is a list of ditches, opened: nil or not, it reads as a flat list of numbers, three a ditch. For every list.
-/
import Derived.Test.YtcjfdfjimcapkaaDoorOpen
import Derived.Deep.Slices
import Derived.Deep.Fields
import Derived.ChangeSame
namespace Go.Proofs.YtcjfdfjimcapkaaDoor
set_option linter.unusedVariables false
open Go.ChangeShapes Go.WideShapes Go.RowKit Go.Deep
section
variable {H : Type} {enc : TypeId × Value → H} {P : Program} {w : World}
theorem open_ditches {t e : TypeId} {f0 f1 f2 : Field} {fuel : Nat} {cs : List Value} {x : DataW H × List MemPlace} (ht : P.underlying t = some (.slice e)) (he : P.underlying e = some (.struct #[f0, f1, f2])) (hone : oneCellFields P #[f0, f1, f2] = true) (hC : P.cellsOf e = 3)
    (h0 : P.underlying f0.type = some (.int .i64)) (h1 : P.underlying f1.type = some (.int .i64)) (h2 : P.underlying f2.type = some (.int .i64))
    (h : DataW.trod enc P w 0 (fun _ => true) true fuel t cs = some x) : ∃ A n fl cap, cs = [.slice A n cap] ∧ fl.length = n * 3 ∧ RC w A (ints fl) ∧ n ≤ 9223372036854775807 := by
  rcases open_slice ht h with ⟨hcs, _⟩ | ⟨a, len, cap, m, nf, D, Pl, hcs, _, hl, hm, hmm, _, hi⟩
  · exact ⟨none, 0, [], 0, hcs, rfl, RC.nil _ _, by simp⟩
  · rw [if_pos rfl] at hmm
    have key : ∀ i, i < len * 3 → ∃ x : Int, w.cell? (a.add i) = some (.int .i64 x) := fun i hi3 => by
      obtain ⟨cs', hc, ht'⟩ := hi (i / 3) (by omega)
      rw [hC] at hc
      obtain ⟨ys, n', hn', hy, hlen, hyl, hf⟩ := DataW.trod_struct he ht'
      obtain ⟨_, hcl, hat⟩ := World.cells?_some hc
      have hone' : ∀ j (f : Field), #[f0, f1, f2][j]? = some f → P.underlying f.type = some (.int .i64) → j < 3 → ∃ x : Int, w.cell? (a.add (i / 3 * 3 + j)) = some (.int .i64 x) := fun j f hj hu hj3 => by
        obtain ⟨ho, hk⟩ := hone_of hone j f hj
        have hcell := hat j (by omega)
        have h1 := hf j f hj
        rw [ho, hk] at h1
        have e1 : (cs'.drop j).take 1 = [cs'[j]'(by omega)] := by
          rw [List.drop_eq_getElem_cons (by omega)]
          rfl
        rw [e1] at h1
        have hys : ys[j]? = some (ys[j]'(by simp at hyl; omega)) := List.getElem?_eq_getElem (by simp at hyl; omega)
        rw [hys] at h1
        obtain ⟨x, hx, _⟩ := DataW.trod_int hu h1
        simp only [List.cons.injEq, and_true] at hx
        refine ⟨x, ?_⟩
        rw [← Go.Deep.add_add, hcell, List.getElem?_eq_getElem (by omega), hx]
      have e3 : i = i / 3 * 3 + i % 3 := by omega
      have hm3 : i % 3 < 3 := Nat.mod_lt _ (by omega)
      rw [e3]
      rcases hq : i % 3 with _ | _ | _ | q
      · exact hone' 0 f0 rfl h0 (by omega)
      · exact hone' 1 f1 rfl h1 (by omega)
      · exact hone' 2 f2 rfl h2 (by omega)
      · omega
    obtain ⟨X, hX⟩ := choose_lt key
    refine ⟨some a, len, (List.range (len * 3)).map X, cap, hcs, by simp, fun hp => ?_, by unfold maxLen at hm; omega⟩
    rw [ints_len, List.length_map, List.length_range] at hp
    obtain ⟨b, off, spot⟩ := a
    have g0 := hX 0 hp
    have hspot : spot = none := by simpa [Addr.add] using World.cell?_spot g0
    subst hspot
    refine ⟨b, off, rfl, by simpa [Addr.add] using block_lt_of_cell g0, fun i hi' => ?_⟩
    rw [ints_len, List.length_map, List.length_range] at hi'
    rw [ints_get _ _ (by simpa using hi')]
    have e : gt ((List.range (len * 3)).map X) i = X i := by
      simp [gt, List.getD_eq_getElem?_getD, hi']
    rw [e]
    have g := hX i hi'
    by_cases e0 : i = 0
    · subst e0; simpa [Addr.add] using g
    · simpa [Addr.add, e0] using g
end
end Go.Proofs.YtcjfdfjimcapkaaDoor
