/-
  Words for a call that appends to two lists of its own, which lie in the cells of one block: what an append does to the other list and to that block. No condition.
-/
import Derived.Test.YtcjfdfjimcapkaaGreatDoorOnly
import Derived.Deep.AppendLies
namespace Go.Proofs.YtcjfdfjimcapkaaGreatDoor
set_option linter.unusedVariables false
open Go.RowKit
structure Own2 (w : World) (B K : Nat) (T : TypeId) (v : Value) (xs : List Int) (u : Value) (ys : List Int) : Prop where
  a : w.ownsRow B T 1 v xs.length (ints xs)
  b : w.ownsRow B T 1 u ys.length (ints ys)
  ab : ∀ g, v.ownBlock = some g → u.ownBlock ≠ some g
  ak : ∀ g, v.ownBlock = some g → g ≠ K
  bk : ∀ g, u.ownBlock = some g → g ≠ K
  kw : K < w.heap.size
theorem own_setCell {w : World} {B T n sz : Nat} {v : Value} {xs : List Value} (h : w.ownsRow B T sz v n xs) {p : Addr} (hp : ∀ g, v.ownBlock = some g → g ≠ p.block) (x : Value) : (w.setCell p x).ownsRow B T sz v n xs := by
  refine ⟨h.1, ?_⟩
  rcases h.2 with hn | ⟨g, cap, cur, rfl, hb, hg, rest⟩
  · exact .inl hn
  · exact .inr ⟨g, cap, cur, rfl, hb, (Below.heap_setCell w p x g (hp g rfl)).trans hg, rest⟩
section
variable {w W w1 : World} {B K T : Nat} {v u : Value} {xs ys zs : List Int}
theorem Own2.alloc (h : Own2 w B K T v xs u ys) (o : Obj) : Own2 (w.alloc o) B K T v xs u ys :=
  ⟨h.a.alloc o, h.b.alloc o, h.ab, h.ak, h.bk, by have := h.kw; simp; omega⟩
theorem Own2.drewN (h : Own2 w B K T v xs u ys) (n : Nat) : Own2 (w.drewN n) B K T v xs u ys := ⟨own_dr h.a n, own_dr h.b n, h.ab, h.ak, h.bk, h.kw⟩
theorem Own2.drew (h : Own2 w B K T v xs u ys) : Own2 w.drew B K T v xs u ys := ⟨h.a, h.b, h.ab, h.ak, h.bk, h.kw⟩
theorem Own2.set (h : Own2 w B K T v xs u ys) (i : Nat) (x : Value) : Own2 (w.setCell ⟨K, i, none⟩ x) B K T v xs u ys :=
  ⟨own_setCell h.a h.ak x, own_setCell h.b h.bk x, h.ab, h.ak, h.bk, by have := h.kw; simpa using this⟩
theorem Own2.swap (h : Own2 w B K T v xs u ys) : Own2 w B K T u ys v xs :=
  ⟨h.b, h.a, fun g hg hv => h.ab g hv hg, h.bk, h.ak, h.kw⟩
/-- a call that leaves the blocks alone that were there -/
theorem Own2.below (h : Own2 w B K T v xs u ys) (hb : Below w.heap.size w w1) : Own2 w1 B K T v xs u ys := by
  have g0 : w.grownBy w1 none := ⟨hb.os, hb.tape, hb.output, hb.size, fun k hk _ => hb.block k hk⟩
  have na : v.ownBlock = none ∨ v.ownBlock ≠ none := by cases v.ownBlock <;> simp
  have nb : u.ownBlock = none ∨ u.ownBlock ≠ none := by cases u.ownBlock <;> simp
  exact ⟨h.a.kept g0 na, h.b.kept g0 nb, h.ab, h.ak, h.bk, Nat.lt_of_lt_of_le h.kw hb.size⟩
theorem Own2.left {g cap : Nat} {x : Int} (h : Own2 W B K T v xs u ys) (hown : w1.ownsRow B T 1 (.slice (some ⟨g, 0, none⟩) (xs.length + 1) cap) (xs.length + 1) (ints xs ++ [.int .i64 x])) (hg : W.grownBy w1 v.ownBlock)
    (hat : v.ownBlock = some g ∨ g = W.heap.size) (hz : zs = xs ++ [x]) : Own2 w1 B K T (.slice (some ⟨g, 0, none⟩) zs.length cap) zs u ys := by
  subst hz
  have hub : ∀ j, u.ownBlock = some j → j < W.heap.size := fun j hj => (h.b.lt j hj).2
  refine ⟨by simpa [ints] using hown, ?_, fun j hj hu => ?_, fun j hj => ?_, h.bk, Nat.lt_of_lt_of_le h.kw hg.size⟩
  · refine h.b.kept hg ?_
    rcases hu : u.ownBlock with _ | j
    · exact .inl rfl
    · exact .inr fun e => h.ab j e.symm hu
  · simp [Value.ownBlock] at hj
    subst hj
    rcases hat with e | e
    · exact h.ab _ e hu
    · have := hub _ hu; omega
  · simp [Value.ownBlock] at hj
    subst hj
    rcases hat with e | e
    · exact h.ak _ e
    · have := h.kw; omega
theorem Own2.right {g cap : Nat} {x : Int} (h : Own2 W B K T v xs u ys) (hown : w1.ownsRow B T 1 (.slice (some ⟨g, 0, none⟩) (ys.length + 1) cap) (ys.length + 1) (ints ys ++ [.int .i64 x])) (hg : W.grownBy w1 u.ownBlock)
    (hat : u.ownBlock = some g ∨ g = W.heap.size) (hz : zs = ys ++ [x]) : Own2 w1 B K T v xs (.slice (some ⟨g, 0, none⟩) zs.length cap) zs := (h.swap.left hown hg hat hz).swap
theorem Own2.an {n : Nat} (h : Own2 w B K T v xs u ys) (hn : xs.length = n) : w.ownsRow B T 1 v n (ints xs) := hn ▸ h.a
theorem Own2.bn {n : Nat} (h : Own2 w B K T v xs u ys) (hn : ys.length = n) : w.ownsRow B T 1 u n (ints ys) := hn ▸ h.b
theorem Own2.leftN {g cap n H : Nat} {x : Int} (h : Own2 W B K T v xs u ys) (hn : xs.length = n) (hown : w1.ownsRow B T 1 (.slice (some ⟨g, 0, none⟩) (n + 1) cap) (n + 1) (ints xs ++ [.int .i64 x])) (hg : W.grownBy w1 v.ownBlock)
    (hat : v.ownBlock = some g ∨ g = H) (hH : W.heap.size = H) (hz : zs = xs ++ [x]) : Own2 w1 B K T (.slice (some ⟨g, 0, none⟩) (n + 1) cap) zs u ys := by
  subst hn
  subst hH
  have := h.left hown hg hat hz
  rw [show zs.length = xs.length + 1 by rw [hz, List.length_append]; rfl] at this
  exact this
theorem Own2.rightN {g cap n H : Nat} {x : Int} (h : Own2 W B K T v xs u ys) (hn : ys.length = n) (hown : w1.ownsRow B T 1 (.slice (some ⟨g, 0, none⟩) (n + 1) cap) (n + 1) (ints ys ++ [.int .i64 x])) (hg : W.grownBy w1 u.ownBlock)
    (hat : u.ownBlock = some g ∨ g = H) (hH : W.heap.size = H) (hz : zs = ys ++ [x]) : Own2 w1 B K T v xs (.slice (some ⟨g, 0, none⟩) (n + 1) cap) zs := (h.swap.leftN hn hown hg hat hH hz).swap
theorem Own2.keepL {j : Nat} {o : Obj} (h : Own2 W B K T v xs u ys) (hg : W.grownBy w1 v.ownBlock) (hk : W.heap[j]? = some o) (hj : j = K ∨ j < B) : w1.heap[j]? = some o :=
  (hg.block j (Array.getElem?_eq_some_iff.1 hk).1 (fun e => by
    have h1 := h.ak j e.symm
    have h2 := (h.a.lt j e.symm).1
    omega)).trans hk
theorem Own2.keepR {j : Nat} {o : Obj} (h : Own2 W B K T v xs u ys) (hg : W.grownBy w1 u.ownBlock) (hk : W.heap[j]? = some o) (hj : j = K ∨ j < B) : w1.heap[j]? = some o := h.swap.keepL hg hk hj
theorem Own2.belowL (h : Own2 W B K T v xs u ys) (hW : Below w.heap.size w W) (hB : w.heap.size ≤ B) (hg : W.grownBy w1 v.ownBlock) : Below w.heap.size w w1 := app_belowB hW h.a hB hg
theorem Own2.belowR (h : Own2 W B K T v xs u ys) (hW : Below w.heap.size w W) (hB : w.heap.size ≤ B) (hg : W.grownBy w1 u.ownBlock) : Below w.heap.size w w1 := app_belowB hW h.b hB hg
end
theorem own_geB {w : World} {B T n m sz g cap : Nat} {xs : List Value} (h : w.ownsRow B T sz (.slice (some ⟨g, 0, none⟩) m cap) n xs) : B ≤ g := (h.lt g rfl).1
/-- a slice value that is a call's own list, with its number of elements -/
theorem own_slice {w : World} {B T : Nat} {v : Value} {xs : List Int} (h : w.ownsRow B T 1 v xs.length (ints xs)) : ∃ A c, v = .slice A xs.length c := by
  rcases h.2 with ⟨rfl, h0⟩ | ⟨g, cap, cur, rfl, _⟩
  · exact ⟨none, 0, by rw [h0]⟩
  · exact ⟨_, _, rfl⟩
/-- the end: two lists of the call's own, in blocks apart -/
theorem Own2.ends {w : World} {B K T : Nat} {A A' : Option Addr} {c c' : Nat} {xs ys : List Int} (h : Own2 w B K T (.slice A xs.length c) xs (.slice A' ys.length c') ys) :
    OwnC B w.heap.size w A (ints xs) ∧ OwnC B w.heap.size w A' (ints ys) ∧ Apart A A' := by
  obtain ⟨A0, c0, hv, ho⟩ := own_endB h.a
  cases hv
  obtain ⟨A1, c1, hu, hp⟩ := own_endB h.b
  cases hu
  refine ⟨ho, hp, fun a a' ha ha' e => ?_⟩
  subst ha
  subst ha'
  exact h.ab a.block rfl (by simp [Value.ownBlock, e])
theorem Own2.endsN {w : World} {B K T n m : Nat} {A A' : Option Addr} {c c' : Nat} {xs ys : List Int} (h : Own2 w B K T (.slice A n c) xs (.slice A' m c') ys) (hn : xs.length = n) (hm : ys.length = m) :
    OwnC B w.heap.size w A (ints xs) ∧ OwnC B w.heap.size w A' (ints ys) ∧ Apart A A' := by
  subst hn
  subst hm
  exact h.ends
end Go.Proofs.YtcjfdfjimcapkaaGreatDoor
