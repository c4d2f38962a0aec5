/-
  Marks on lands and on curves: what they write, and that they are held. For lists of at most 1048576 numbers.
-/
import Derived.Test.YtcjfdfjimcapkaaDoorOnly
import Derived.Test.YtcjfdfjimcapkaaDoorLand
import Derived.Test.YtcjfdfjimcapkaaDoorCurve2
namespace Go.Proofs.YtcjfdfjimcapkaaDoor
set_option linter.unusedVariables false
open Go.RowKit

theorem OnlyG.r {n B E : Nat} {A : Option Addr} {w w' : World} {cs : List Value} (h : OnlyG n A w w') (ho : OwnC B E w A cs) (hn : n ≤ cs.length) : OnlyR B E w w' :=
  ⟨h.os, h.tape, h.output, h.size, fun j hj hd => h.block j hj fun h0 g hA e => by
    obtain ⟨g', _, _, hA', h1, h2, _⟩ := ho (by omega)
    rw [hA] at hA'
    cases hA'
    omega⟩
def MarkedC (n m : Nat) (start : Int) (A A' : Option Addr) (B M E : Nat) (w : World) (e : Ending) (w' : World) : Prop :=
  e = .returned (.int .i64 (start + (n : Int) + (m : Int))) ∧ OnlyR B E w w' ∧ OwnC B M w' A (ints (marks start n)) ∧ OwnC M E w' A' (ints (marks (start + (n : Int)) m))

set_option maxHeartbeats 800000 in
theorem markCurve_any (w : World) (A A' : Option Addr) (k k' B M E : Nat) (ls vs : List Int) (start : Int) (cs cs' : List Value) (hA : OwnC B M w A cs) (hn : cs.length = ls.length) (hA' : OwnC M E w A' cs') (hn' : cs'.length = vs.length) (hBM : B ≤ M) (hME : M ≤ E) (hEw : E ≤ w.heap.size) (hm : ls.length ≤ 1048576) (hm' : vs.length ≤ 1048576) (hs0 : 0 ≤ start) (hs' : start ≤ 1099510000000) :
    Calls Tryd.prog 9 #[.agg #[.slice A ls.length k, .slice A' vs.length k'], .int .i64 start] w (MarkedC ls.length vs.length start A A' B M E w) := by
  have HA := Lib.hid hA
  have HN := Lib.hid hn
  have HB := Lib.hid hA'
  have HN' := Lib.hid hn'
  clear hA hn hA' hn'
  go_enter Tryd.func9, Tryd.ntmps9
  go_wp2_with fail
  refine (markInts _ _ _ _ _ _ _ _ (HA.out.alloc _) HN.out hm hs0 (by omega)).mono ?_
  rintro e w1 ⟨rfl, q, m⟩
  have q0 : w1.heap[w.heap.size]? = some (.cells #[.slice A ls.length k, .slice A' vs.length k'] 24 (0, 0)) := keep_onlyR (heap_alloc_new _ _) (q.r (HA.out.alloc _) (Nat.le_of_eq HN.out.symm)) (.inr (by omega))
  obtain ⟨c0, c1, cl⟩ := row_two q0
  have Q1 : OnlyR B M w w1 := OnlyR.pre (bl_alloc (Below.refl _ _) _) (q.r (HA.out.alloc _) (Nat.le_of_eq HN.out.symm))
  have o2 : OwnC M E w1 A' cs' := HB.out.onlyR Q1 (.inr (Nat.le_refl _))
  have H1 := Lib.hid m
  have H2 := Lib.hid Q1
  have H3 := Lib.hid o2
  clear m Q1 o2 q q0
  go_wp2_with fail
  refine (markInts _ _ _ _ _ _ _ _ H3.out HN'.out hm' (by omega) (by omega)).mono ?_
  rintro e w2 ⟨rfl, q2, m2⟩
  have Q2 : OnlyR M E w1 w2 := q2.r H3.out (Nat.le_of_eq HN'.out.symm)
  go_wp2
  go_ret
  exact ⟨rfl, (H2.out.wide (Nat.le_refl _) hME).trans (Q2.wide hBM (Nat.le_refl _)), H1.out.onlyR Q2 (.inl (Nat.le_refl _)), m2⟩
/-- a call that makes a new curve with a code, its lists in blocks apart -/
def NewCurveD (ls vs : List Int) (code : Int) (w : World) (e : Ending) (w' : World) : Prop :=
  ∃ A k A' k', e = .returned (.tuple #[.agg #[.slice A ls.length k, .slice A' vs.length k'], .int .i64 code]) ∧ OwnC w.heap.size w'.heap.size w' A (ints ls) ∧ OwnC w.heap.size w'.heap.size w' A' (ints vs) ∧ Apart A A' ∧ Below w.heap.size w w'
def MarkedD (n m : Nat) (start : Int) (A A' : Option Addr) (B E : Nat) (w : World) (e : Ending) (w' : World) : Prop :=
  e = .returned (.int .i64 (start + (n : Int) + (m : Int))) ∧ OnlyR B E w w' ∧ OwnC B E w' A (ints (marks start n)) ∧ OwnC B E w' A' (ints (marks (start + (n : Int)) m))
theorem OwnC.apart_marks {B E n : Nat} {A A' : Option Addr} {w w' : World} {cs : List Value} (h : OwnC B E w A' cs) (ho : Only n A w w') (hd : Apart A' A) : OwnC B E w' A' cs := h.apart ho fun a a' ha ha' e => hd _ _ ha' ha e.symm

set_option maxHeartbeats 800000 in
theorem markCurveD_any (w : World) (A A' : Option Addr) (k k' B E : Nat) (ls vs : List Int) (start : Int) (cs cs' : List Value) (hA : OwnC B E w A cs) (hn : cs.length = ls.length) (hA' : OwnC B E w A' cs') (hn' : cs'.length = vs.length) (hap : Apart A A') (hEw : E ≤ w.heap.size) (hm : ls.length ≤ 1048576) (hm' : vs.length ≤ 1048576) (hs0 : 0 ≤ start) (hs' : start ≤ 1099510000000) :
    Calls Tryd.prog 9 #[.agg #[.slice A ls.length k, .slice A' vs.length k'], .int .i64 start] w (MarkedD ls.length vs.length start A A' B E w) := by
  have HA := Lib.hid hA
  have HN := Lib.hid hn
  have HB := Lib.hid hA'
  have HN' := Lib.hid hn'
  have HP := Lib.hid hap
  clear hA hn hA' hn' hap
  go_enter Tryd.func9, Tryd.ntmps9
  go_wp2_with fail
  refine (markInts _ _ _ _ _ _ _ _ (HA.out.alloc _) HN.out hm hs0 (by omega)).mono ?_
  rintro e w1 ⟨rfl, q, m⟩
  have q0 : w1.heap[w.heap.size]? = some (.cells #[.slice A ls.length k, .slice A' vs.length k'] 24 (0, 0)) := keep_onlyR (heap_alloc_new _ _) (q.r (HA.out.alloc _) (Nat.le_of_eq HN.out.symm)) (.inr (by omega))
  obtain ⟨c0, c1, cl⟩ := row_two q0
  have Q1 : OnlyR B E w w1 := OnlyR.pre (bl_alloc (Below.refl _ _) _) (q.r (HA.out.alloc _) (Nat.le_of_eq HN.out.symm))
  have o2 : OwnC B E w1 A' cs' := (HB.out.alloc _).apart q HP.out
  have H1 := Lib.hid m
  have H2 := Lib.hid Q1
  have H3 := Lib.hid o2
  clear m Q1 o2 q q0
  go_wp2_with fail
  refine (markInts _ _ _ _ _ _ _ _ H3.out HN'.out hm' (by omega) (by omega)).mono ?_
  rintro e w2 ⟨rfl, q2, m2⟩
  have Q2 : OnlyR B E w1 w2 := q2.r H3.out (Nat.le_of_eq HN'.out.symm)
  go_wp2
  go_ret
  exact ⟨rfl, H2.out.trans Q2, H1.out.apart_marks q2 HP.out, m2⟩
set_option maxHeartbeats 800000 in
theorem heldCurve_any (w : World) (A A' : Option Addr) (k k' : Nat) (ls vs : List Int) (start : Int) (hA : RC w A (ints (marks start ls.length))) (hA' : RC w A' (ints (marks (start + (ls.length : Int)) vs.length))) (hm : ls.length ≤ 1048576) (hm' : vs.length ≤ 1048576) (hs0 : 0 ≤ start) (hs' : start ≤ 1099510000000) :
    Calls Tryd.prog 10 #[.agg #[.slice A ls.length k, .slice A' vs.length k'], .int .i64 start] w fun e w' => e = .returned (.int .i64 (start + (ls.length : Int) + (vs.length : Int))) ∧ Below w.heap.size w w' := by
  have HA := Lib.hid hA
  have HB := Lib.hid hA'
  clear hA hA'
  go_enter Tryd.func10, Tryd.ntmps10
  go_wp2_with fail
  refine (heldInts _ _ _ _ _ (HA.out.below (by repeat (first | exact Below.refl _ _ | assumption | apply bl_alloc | apply bl_drewN | apply Below.drew | (refine bl_set ?_ (by first | exact Nat.le_refl _ | (simp; done) | (simp; omega)) _) | (refine bl_trans ?_ (by assumption))))) hm hs0 (by omega)).mono ?_
  rintro e w' ⟨rfl, rfl⟩
  go_wp2_with fail
  refine (heldInts _ _ _ _ _ (HB.out.below (by repeat (first | exact Below.refl _ _ | assumption | apply bl_alloc | apply bl_drewN | apply Below.drew | (refine bl_set ?_ (by first | exact Nat.le_refl _ | (simp; done) | (simp; omega)) _) | (refine bl_trans ?_ (by assumption))))) hm' (by omega) (by omega)).mono ?_
  rintro e w' ⟨rfl, rfl⟩
  go_wp2
  go_ret
  exact ⟨rfl, by repeat (first | exact Below.refl _ _ | assumption | apply bl_alloc | apply bl_drewN | apply Below.drew | (refine bl_set ?_ (by first | exact Nat.le_refl _ | (simp; done) | (simp; omega)) _) | (refine bl_trans ?_ (by assumption)))⟩
end Go.Proofs.YtcjfdfjimcapkaaDoor
