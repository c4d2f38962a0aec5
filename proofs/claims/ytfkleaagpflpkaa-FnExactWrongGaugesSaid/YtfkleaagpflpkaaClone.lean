/-
  Contracts: a copy of a list, a height set. They hold for lists of at most 1048576 numbers.
-/
import Derived.Test.YtfkleaagpflpkaaLand3
import Derived.Test.YtfkleaagpflpkaaLists
import Derived.Test.YtfkleaagpflpkaaOnly
import Derived.Test.YtfkleaagpflpkaaForPlain
import Derived.Deep.RegionHeld3
namespace Go.Proofs.Ytfkleaagpflpkaa
set_option linter.unusedVariables false
open Go.RowKit

theorem rc_news {w : World} {b off : Nat} {cs : List Value} (h : ∀ i, i < cs.length → w.cell? ⟨b, off + i, none⟩ = cs[i]?) : ∀ j u, cs[j]? = some u → w.cell? (Addr.add ⟨b, off, none⟩ j) = some u := by
  intro j u hj
  have hl : j < cs.length := (List.getElem?_eq_some_iff.1 hj).1
  have h1 := (h j hl).trans hj
  by_cases e : j = 0
  · subst e; simpa [Addr.add] using h1
  · simpa [Addr.add, e] using h1
theorem rc_newsB {w W : World} {b off : Nat} {cs : List Value} (hb : Below w.heap.size w W) (hbl : b < w.heap.size) (h : ∀ i, i < cs.length → w.cell? ⟨b, off + i, none⟩ = cs[i]?) : ∀ j u, cs[j]? = some u → W.cell? (Addr.add ⟨b, off, none⟩ j) = some u :=
  rc_news fun i hi => (hb.cell (p := ⟨b, off + i, none⟩) hbl).trans (h i hi)
theorem ints_one (zs : List Int) : ∀ u ∈ ints zs, u.oneCell' = true := by
  intro u hu
  simp only [ints, List.mem_map] at hu
  obtain ⟨x, _, rfl⟩ := hu
  rfl
theorem own_set {B E g i : Nat} {w : World} {cur : Array Value} {T : TypeId} {hs : List Int} (y : Int) (h1 : B ≤ g) (h2 : g < E) (hg : w.heap[g]? = some (.cells cur T (0, 0))) (hc : ∀ j, j < (ints hs).length → cur[j]? = (ints hs)[j]?) (hi : i < hs.length) :
    OwnC B E (w.setCell ⟨g, i, none⟩ (.int .i64 y)) (some ⟨g, 0, none⟩) (ints (hs.set i y)) := fun _ => by
  refine ⟨g, _, T, rfl, h1, h2, heap_setCell_same w _ i cur T _ hg, fun j hj => ?_⟩
  rw [ints_len, List.length_set] at hj
  have hs' : i < cur.size := by
    have := hc i (by rw [ints_len]; exact hi)
    rw [ints_get hs i hi] at this
    exact (Array.getElem?_eq_some_iff.1 this).1
  rw [ints_get _ j (by rw [List.length_set]; exact hj), gt_set hs i j y hi]
  by_cases e : j = i
  · subst e; simp [hs']
  · rw [Array.getElem?_setIfInBounds_ne (by omega), if_neg e, hc j (by rw [ints_len]; exact hj), ints_get hs j hj]

set_option maxHeartbeats 800000 in
theorem clone_any (w : World) (A : Option Addr) (k : Nat) (hs : List Int) (hA : RC w A (ints hs)) (hm : hs.length ≤ 1048576) (h1 : 1 ≤ hs.length) :
    Calls Try.prog 35 #[.slice A hs.length k] w (NewInts hs w) := by
  obtain ⟨b, off, rfl, hbl, hcell⟩ := hA (by rw [ints_len]; omega)
  obtain ⟨i0, hi, hz0, hz1, hz2⟩ := info_parts infoInt
  have HN := Lib.hid (fun (o : Obj) => rc_newsB (bl_alloc (Below.refl w.heap.size w) o) hbl hcell)
  clear hcell
  go_enter Try.func35, Try.ntmps35
  go_wp2_with (at_builtin; refine wpList_append_own _ rfl _ _ 22 rfl w.heap.size 2 i0 (.int .i64 0) 1 8 Try.underlying22 hi hz0 hz1 hz2 rfl (by decide) _ _ _ rfl (own_lit _ (Below.refl _ _)) ⟨b, off, none⟩ hs.length k (ints hs) rfl (by rw [ints_len, Nat.mul_one]) (HN.out _) (ints_one hs) (by unfold maxLen; omega) (by omega) (by simp) ?_; intro v' w1 hown' hgrow _)
  have R1 := Lib.hid (show w1.ownsRow w.heap.size 2 1 v' hs.length (ints hs) by simpa [ints] using hown')
  have R2 := Lib.hid (app_below (bl_alloc (Below.refl _ _) _) (own_lit _ (Below.refl _ _)) hgrow)
  clear hown' hgrow
  go_wp2
  go_ret
  exact new_end R1.out R2.out
set_option maxHeartbeats 800000 in
theorem l00Own_any (w : World) (A : Option Addr) (k : Nat) (hs : List Int) (hA : RC w A (ints hs)) (hm : hs.length ≤ 1048576) (h1 : 1 ≤ hs.length) :
    Calls Try.prog 41 #[.slice A hs.length k] w (NewInts hs w) := by
  obtain ⟨b, off, rfl, hbl, hcell⟩ := hA (by rw [ints_len]; omega)
  obtain ⟨i0, hi, hz0, hz1, hz2⟩ := info_parts infoInt
  have HN := Lib.hid (fun (o : Obj) => rc_newsB (bl_alloc (Below.refl w.heap.size w) o) hbl hcell)
  clear hcell
  go_enter Try.func41, Try.ntmps41
  go_wp2_with (at_builtin; refine wpList_append_own _ rfl _ _ 22 rfl w.heap.size 2 i0 (.int .i64 0) 1 8 Try.underlying22 hi hz0 hz1 hz2 rfl (by decide) _ _ _ rfl (own_lit _ (Below.refl _ _)) ⟨b, off, none⟩ hs.length k (ints hs) rfl (by rw [ints_len, Nat.mul_one]) (HN.out _) (ints_one hs) (by unfold maxLen; omega) (by omega) (by simp) ?_; intro v' w1 hown' hgrow _)
  have R1 := Lib.hid (show w1.ownsRow w.heap.size 2 1 v' hs.length (ints hs) by simpa [ints] using hown')
  have R2 := Lib.hid (app_below (bl_alloc (Below.refl _ _) _) (own_lit _ (Below.refl _ _)) hgrow)
  clear hown' hgrow
  go_wp2
  go_ret
  exact new_end R1.out R2.out
end Go.Proofs.Ytfkleaagpflpkaa
