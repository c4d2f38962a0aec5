/-
  Contracts of the library's replacer of bytes: how it is made for six texts, and how it is built.
-/
import Derived.Test.YtcjfdfjimcapkaaGreatDoorHelp
import Derived.Test.YtcjfdfjimcapkaaGreatDoorOnly
import Derived.Test.YtcjfdfjimcapkaaGreatDoorOnce
import Derived.Deep.AppendLies
import Derived.Deep.QuietTactic
import Derived.Lib.SliceRun
namespace Go.Proofs.YtcjfdfjimcapkaaGreatDoor
set_option linter.unusedVariables false
set_option linter.unusedSimpArgs false
open Go.RowKit

/-- the six texts: what is struck out, and nothing for each -/
def onT : List Value := [.string ⟨#[43]⟩, .string ⟨#[]⟩, .string ⟨#[46]⟩, .string ⟨#[]⟩, .string ⟨#[109]⟩, .string ⟨#[]⟩]
theorem infoTxt : (Tryz.prog.info? 9).map (fun i => (i.zero, i.size, i.bytes)) = some (some (.string ⟨#[]⟩), 1, 16) := by kernel_rfl
theorem onT_news {W : World} {g : Nat} (h : W.heap[g]? = some (.cells onT.toArray 9 (0, 0))) : ∀ j u, onT[j]? = some u → W.cell? (Addr.add ⟨g, 0, none⟩ j) = some u := by
  intro j u hj
  have e : (Addr.add ⟨g, 0, none⟩ j) = ⟨g, j, none⟩ := by cases j <;> simp [Addr.add]
  rw [e, cell_of_row W g j _ _ (0, 0) h]
  simpa using hj
/-- a replacer, not yet built, whose texts lie in block A -/
def Repl (x : Int) (b A : Nat) (w : World) : Prop :=
  ∃ cap cur, w.heap[b]? = some (.cells #[.int .u32 0, .int .i32 x, .int .u32 0, .nilIface, .slice (some ⟨A, 0, none⟩) 6 cap] 59 (0, 0)) ∧ w.heap[A]? = some (.cells cur 9 (0, 0)) ∧ (∀ j, j < 6 → cur[j]? = onT[j]?) ∧ A ≠ b
def NewRepl (w : World) (e : Ending) (w' : World) : Prop :=
  ∃ b A, e = .returned (.pointer (some ⟨b, 0, none⟩)) ∧ w.heap.size ≤ b ∧ w.heap.size ≤ A ∧ Repl 0 b A w' ∧ Below w.heap.size w w'
theorem onT_one : ∀ u ∈ onT, u.oneCell' = true := by
  intro u hu
  simp [onT] at hu
  rcases hu with rfl | rfl | rfl | rfl | rfl | rfl <;> rfl
theorem new_any (w : World) (g : Nat) (hg : w.heap[g]? = some (.cells onT.toArray 9 (0, 0))) :
    Calls Tryz.prog 13 #[.slice (some ⟨g, 0, none⟩) 6 6] w (NewRepl w) := by
  obtain ⟨i0, hi, hz0, hz1, hz2⟩ := info_parts infoTxt
  go_enter Tryz.func13, Tryz.ntmps13
  go_wp2_with ((at_builtin; refine wpList_append_lies _ rfl _ _ 25 rfl w.heap.size 9 i0 (.string ⟨#[]⟩) 1 16 Tryz.underlying25 hi hz0 hz1 hz2 rfl (by decide) _ 0 [] rfl (World.ownsRow_nil _ _ _ _) ⟨g, 0, none⟩ 6 6 onT rfl rfl (onT_news hg) onT_one (by decide) (by decide) (by decide) (Nat.le_refl _) w.heap.size rfl ?_; intro A cap w1 hown hgrow hat hlt))
  go_ret
  have hgr : Below w.heap.size w w1 := app_belowB (Below.refl _ _) (World.ownsRow_nil w w.heap.size 9 1) (Nat.le_refl _) hgrow
  rcases hown.2 with ⟨h0, _⟩ | ⟨g', cap', cur, e0, hb, hgA, hn, hm, hs, ht⟩
  · cases h0
  · injection e0 with e1 e2 e3
    injection e1 with e1
    injection e1 with e1
    subst e1
    refine ⟨w1.heap.size, A, rfl, hgr.size, hb, ⟨cap, cur, heap_alloc_new _ _, blk_old hgA, fun j hj => ?_, by omega⟩, by repeat (first | exact Below.refl _ _ | assumption | apply bl_alloc | apply bl_drewN | apply Below.drew | (refine bl_set ?_ (by first | exact Nat.le_refl _ | (simp; done) | (simp; omega)) _) | (refine bl_trans ?_ (by assumption)))⟩
    have h := congrArg (fun l => l[j]?) ht
    simp only [List.nil_append, List.getElem?_take] at h
    rw [if_pos (by omega)] at h
    simpa using h
end Go.Proofs.YtcjfdfjimcapkaaGreatDoor
