/-
  Contracts on the parts of a text and on their numbers, the reference. They hold for texts of at most 1048576 bytes.
-/
import Derived.IntWalk
import Derived.Test.YtcjfdfjimcapkaaGreatDoorFldPlain
import Derived.Test.YtcjfdfjimcapkaaGreatDoorSplit
import Derived.Test.YtcjfdfjimcapkaaGreatDoorNum
namespace Go.Proofs.YtcjfdfjimcapkaaGreatDoor
set_option linter.unusedVariables false
set_option linter.unusedSimpArgs false
open Go.RowKit

theorem split_at (w : World) (l : List UInt8) (d : UInt8) (x : Int) (P : List (List UInt8)) (hx : (d.toNat : Int) = x) (hP : spl d l = P) (hm : l.length ≤ 1048576) : Calls Tryz.prog 6 #[.string ⟨l.toArray⟩, .int .u8 x] w
    fun e w' => ∃ g c cur, e = .returned (.slice (some ⟨g, 0, none⟩) P.length c) ∧ w.heap.size ≤ g ∧ w'.heap[g]? = some (.cells cur 9 (0, 0)) ∧ (∀ i, i < P.length → cur[i]? = (P.map sV)[i]?) ∧ Below w.heap.size w w' := by
  subst hx hP
  refine (l01Split_any w ⟨l.toArray⟩ d (by simpa [ByteArray.size] using hm)).mono ?_
  rintro e w' ⟨v, rfl, hown, hne, hb⟩
  have hown : w'.ownsRow w.heap.size 9 1 v (spl d l).length ((spl d l).map sV) := hown
  rcases hown.2 with ⟨h0, _⟩ | ⟨g, cap, cur, rfl, hbg, hg, _, _, _, ht⟩
  · exact absurd h0 hne
  · refine ⟨g, cap, cur, rfl, hbg, hg, fun i hi => ?_, hb⟩
    rw [← ht, List.getElem?_take_of_lt (by omega), Array.getElem?_toList]
theorem cell_sV {w : World} {g i : Nat} {cur : Array Value} {P : List (List UInt8)} {x : List UInt8} (k : w.heap[g]? = some (.cells cur 9 (0, 0))) (hc : ∀ i, i < P.length → cur[i]? = (P.map sV)[i]?) (hx : P[i]? = some x) : w.cell? ⟨g, i, none⟩ = some (.string ⟨x.toArray⟩) := by
  rw [cell_of_row w g i _ _ (0, 0) k, hc i (List.getElem?_eq_some_iff.1 hx).1, List.getElem?_map, hx]
  rfl
theorem split2_at (w : World) (l : List UInt8) (d : UInt8) (x : Int) (p q : List UInt8) (hx : (d.toNat : Int) = x) (hP : spl d l = [p, q]) (hm : l.length ≤ 1048576) : Calls Tryz.prog 6 #[.string ⟨l.toArray⟩, .int .u8 x] w
    fun e w' => ∃ g c cur, e = .returned (.slice (some ⟨g, 0, none⟩) 2 c) ∧ w'.heap[g]? = some (.cells cur 9 (0, 0)) ∧ w'.cell? ⟨g, 0, none⟩ = some (.string ⟨p.toArray⟩) ∧ cur[1]? = some (.string ⟨q.toArray⟩) ∧ Below w.heap.size w w' := by
  refine (split_at w l d x [p, q] hx hP hm).mono ?_
  rintro e w' ⟨g, c, cur, rfl, hg, k, hc, hb⟩
  exact ⟨g, c, cur, rfl, k, cell_sV k hc rfl, hc 1 (by simp), hb⟩
theorem number_at (w : World) (x : List UInt8) (b : Bool) (hb : numB x = b) (hm : x.length ≤ 1048576) : Calls Tryz.prog 8 #[.string ⟨x.toArray⟩] w fun e w' => e = .returned (.tuple #[.int .i64 (numV x), .bool b]) ∧ Below w.heap.size w w' := by
  subst hb
  exact l01Number_any w ⟨x.toArray⟩ (by simpa [ByteArray.size] using hm)
end Go.Proofs.YtcjfdfjimcapkaaGreatDoor
