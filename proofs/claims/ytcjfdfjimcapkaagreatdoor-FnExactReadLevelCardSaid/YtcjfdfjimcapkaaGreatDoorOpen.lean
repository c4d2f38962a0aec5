/-
  An argument that is a list of numbers, opened: nil or not, it reads as a list of cells. For every list.
-/
import Derived.Test.YtcjfdfjimcapkaaGreatDoorPlain
namespace Go.Proofs.YtcjfdfjimcapkaaGreatDoor
set_option linter.unusedVariables false
open Go.ChangeShapes Go.WideShapes Go.RowKit
section
variable {H : Type} {enc : TypeId × Value → H} {P : Program} {w : World}
theorem gt_take (zs : List Int) (n i : Nat) (h : i < n) : gt (zs.take n) i = gt zs i := by
  simp [gt, List.getD_eq_getElem?_getD, h]
theorem open_list {t e : TypeId} {fuel : Nat} {cs : List Value} {x : DataW H × List MemPlace} (ht : P.underlying t = some (.slice e)) (he : P.underlying e = some (.int .i64)) (hc : P.cellsOf e = 1)
    (h : DataW.trod enc P w 0 (fun _ => true) true fuel t cs = some x) : ∃ A zs cap, cs = [.slice A (List.length zs) cap] ∧ RC w A (ints zs) ∧ zs.length ≤ 9223372036854775807 := by
  rcases open_ints ht he hc h with ⟨hcs, _⟩ | ⟨x, l, c, zs, hcs, _, hl, hm, hz, _, hcell, hwz⟩
  · exact ⟨none, [], 0, hcs, RC.nil _ _, by simp⟩
  · rw [if_pos rfl] at hz
    have hlen : (zs.take l).length = l := by rw [List.length_take]; omega
    refine ⟨some x, zs.take l, c, by rw [hlen]; exact hcs, fun h0 => ?_, by unfold maxLen at hm; omega⟩
    rw [ints_len, hlen] at h0
    obtain ⟨b, off, spot⟩ := x
    have h1 := hcell 0 (by omega)
    have hspot : spot = none := by simpa [Addr.add] using World.cell?_spot h1
    subst hspot
    refine ⟨b, off, rfl, ?_, fun i hi => ?_⟩
    · have := block_lt_of_cell h1
      simpa [Addr.add] using this
    · rw [ints_len, hlen] at hi
      rw [ints_get _ _ (by rw [hlen]; exact hi), gt_take _ _ _ hi]
      have h2 := hcell i (by omega)
      by_cases e0 : i = 0
      · subst e0; simpa [Addr.add, gt] using h2
      · simpa [Addr.add, e0, gt] using h2
end
end Go.Proofs.YtcjfdfjimcapkaaGreatDoor
