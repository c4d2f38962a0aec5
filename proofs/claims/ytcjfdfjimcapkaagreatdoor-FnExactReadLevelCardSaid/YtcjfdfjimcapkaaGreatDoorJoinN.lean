/-
  Contract of the program's joining of numbers into one text. It holds for rows of at most 12 numbers that are levels, where a table of the library reads as it is laid.
-/
import Derived.Test.YtcjfdfjimcapkaaGreatDoorDecImpl
import Derived.Test.YtcjfdfjimcapkaaGreatDoorLtPlain
import Derived.Test.YtcjfdfjimcapkaaGreatDoorHelp
import Derived.Test.YtcjfdfjimcapkaaGreatDoorShelf3
namespace Go.Proofs.YtcjfdfjimcapkaaGreatDoor
set_option linter.unusedVariables false
open Go.RowKit
def sV (l : List UInt8) : Value := .string ⟨l.toArray⟩
theorem own_beJ {w W : World} {B T n sz : Nat} {v : Value} {xs : List Value} (h : w.ownsRow B T sz v n xs) (hb : Below w.heap.size w W) : W.ownsRow B T sz v n xs := by
  refine ⟨h.1, ?_⟩
  rcases h.2 with hn | ⟨g, cap, cur, rfl, hB, hg, rest⟩
  · exact .inl hn
  · exact .inr ⟨g, cap, cur, rfl, hB, (hb.block g (Array.getElem?_eq_some_iff.1 hg).1).trans hg, rest⟩
theorem infoStr : (Tryz.prog.info? 9).map (fun i => (i.zero, i.size, i.bytes)) = some (some (.string ByteArray.empty), 1, 16) := by kernel_rfl
theorem app_oneS (l : List UInt8) : ∀ u ∈ [sV l], u.oneCell' = true := by
  intro u hu
  simp at hu
  subst hu
  rfl
theorem app_ownS {w1 : World} {B T n : Nat} {v' : Value} {ys : List (List UInt8)} {X : List UInt8} (hown' : w1.ownsRow B T 1 v' n (ys.map sV ++ [sV X])) : w1.ownsRow B T 1 v' n ((ys ++ [X]).map sV) := by
  simpa using hown'
theorem own_lits {w W : World} (T : TypeId) (hW : Below w.heap.size w W) : (W.alloc (.cells #[] T)).ownsRow w.heap.size T 1 (.slice (some ⟨W.heap.size, 0, none⟩) 0 0) 0 (([] : List (List UInt8)).map sV) := own_lit T hW
/-- a row of texts of the call's own, read -/
theorem own_texts {wr : World} {B T n : Nat} {v : Value} {xs : List (List UInt8)} (h : wr.ownsRow B T 1 v n (xs.map sV)) (h1 : 1 ≤ n) :
    ∃ g cap, v = .slice (some ⟨g, 0, none⟩) n cap ∧ B ≤ g ∧ g < wr.heap.size ∧ n ≤ cap ∧ ∀ (j : Nat) x, (xs.map fun l => (⟨l.toArray⟩ : ByteArray))[j]? = some x → wr.cell? ⟨g, 0 + j, none⟩ = some (.string x) := by
  rcases h.2 with ⟨_, h0⟩ | ⟨g, cap, cur, rfl, hb, hg, hn, hm, hs, ht⟩
  · omega
  · refine ⟨g, cap, rfl, hb, (Array.getElem?_eq_some_iff.1 hg).1, hn, fun j x hx => ?_⟩
    rw [List.getElem?_map] at hx
    rcases hj : xs[j]? with _ | l
    · rw [hj] at hx; simp at hx
    · rw [hj] at hx
      obtain rfl := Option.some.inj hx
      have hlen : xs.length = n := by have := h.1; simpa using this
      have hjl : j < n := by rw [← hlen]; exact (List.getElem?_eq_some_iff.1 hj).1
      rw [Nat.zero_add, cell_of_row wr g j cur T (0, 0) hg]
      have : (cur.toList.take (n * 1))[j]? = (xs.map sV)[j]? := by rw [ht]
      rw [List.getElem?_take, if_pos (by omega), List.getElem?_map, hj] at this
      have h9 : cur[j]? = some (sV l) := by simpa using this
      exact h9
end Go.Proofs.YtcjfdfjimcapkaaGreatDoor
