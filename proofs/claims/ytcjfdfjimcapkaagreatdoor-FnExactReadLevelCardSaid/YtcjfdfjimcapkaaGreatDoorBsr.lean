/-
  Plain words on striking bytes out; contract of the library's replacer by its table.
-/
import Derived.Test.YtcjfdfjimcapkaaGreatDoorBuild2
import Derived.Test.YtcjfdfjimcapkaaGreatDoorShelf3
import Derived.Deep.QuietTactic
import Derived.Laws.IdiomCopy
import Derived.Lib.SliceRun
namespace Go.Proofs.YtcjfdfjimcapkaaGreatDoor
set_option linter.unusedVariables false
set_option linter.unusedSimpArgs false
open Go.RowKit

/-- what is left of a text; how many bytes are struck out -/
def strk (l : List UInt8) : List UInt8 := l.filter fun b => !hitK 3 b.toNat
def hits (l : List UInt8) : Nat := l.countP fun b => hitK 3 b.toNat
def ck (l : List UInt8) : Nat → Nat
  | 0 => 0
  | 1 => l.count 109
  | 2 => l.count 109 + l.count 46
  | _ => l.count 109 + l.count 46 + l.count 43
theorem byte_eq (b : UInt8) (n : Nat) (hn : n < 256) : (b.toNat == n) = (b == UInt8.ofNat n) := by
  rw [Bool.eq_iff_iff]
  simp only [beq_iff_eq]
  constructor
  · intro h; rw [← h]; simp
  · intro h; rw [h]; simp; omega
theorem hits_count : ∀ l : List UInt8, ck l 3 = hits l
  | [] => rfl
  | b :: l => by
    have ih := hits_count l
    unfold ck hits at *
    rw [List.countP_cons, ← ih, List.count_cons, List.count_cons, List.count_cons]
    simp only [hitK, byte_eq b 109 (by omega), byte_eq b 46 (by omega), byte_eq b 43 (by omega)]
    by_cases h1 : b = 109
    · subst h1; simp; omega
    by_cases h2 : b = 46
    · subst h2; simp; omega
    by_cases h3 : b = 43
    · subst h3; simp; omega
    have e1 : (b == (109 : UInt8)) = false := by simpa using h1
    have e2 : (b == (46 : UInt8)) = false := by simpa using h2
    have e3 : (b == (43 : UInt8)) = false := by simpa using h3
    have f1 : (b == UInt8.ofNat 109) = false := e1
    have f2 : (b == UInt8.ofNat 46) = false := e2
    have f3 : (b == UInt8.ofNat 43) = false := e3
    simp [e1, e2, e3, f1, f2, f3]
theorem strk_len (l : List UInt8) : (strk l).length + hits l = l.length := by
  have := List.length_eq_countP_add_countP (fun b : UInt8 => hitK 3 b.toNat) (l := l)
  rw [strk, hits, ← List.countP_eq_length_filter]
  simp only [Bool.not_eq_true, Bool.decide_eq_false] at this
  omega
theorem hits_next {l : List UInt8} {i : Nat} (h : i < l.length) : hits (l.take (i + 1)) = hits (l.take i) + (if hitK 3 (l[i]).toNat then 1 else 0) := by
  rw [hits, hits, List.take_succ_eq_append_getElem h, List.countP_append, List.countP_singleton]
theorem strk_next {l : List UInt8} {i : Nat} (h : i < l.length) : strk (l.take (i + 1)) = strk (l.take i) ++ (if hitK 3 (l[i]).toNat then [] else [l[i]]) := by
  rw [strk, strk, List.take_succ_eq_append_getElem h, List.filter_append]
  congr 1
  by_cases h : hitK 3 (l[i]).toNat <;> simp [List.filter_cons, h]
theorem strk_id {l : List UInt8} (h : hits l = 0) : strk l = l := by
  rw [hits, List.countP_eq_zero] at h
  rw [strk, List.filter_eq_self]
  intro b hb
  simpa using h b hb
end Go.Proofs.YtcjfdfjimcapkaaGreatDoor
