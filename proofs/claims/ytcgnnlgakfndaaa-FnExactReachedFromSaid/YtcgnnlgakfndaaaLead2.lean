/-
  Contracts on nets: the reference's test whether flows lead water to the outlet, and its code. They hold for lists of at most 1048576 numbers.
-/
import Derived.Test.YtcgnnlgakfndaaaLead
import Derived.StillTailTactics
namespace Go.Proofs.Ytcgnnlgakfndaaa
set_option linter.unusedVariables false
open Go.RowKit

set_option maxHeartbeats 800000 in
theorem l04Code_any (w : World) (p : Nat) (J s : Int) (A : Option Addr) (n k : Nat) (fl : List Int) (hp0 : w.cell? ⟨p, 0, none⟩ = some (.int .i64 J)) (hp1 : w.cell? ⟨p, 1, none⟩ = some (.slice A n k)) (hA : RC w A (ints fl)) (lf : fl.length = n * 3) (hm : n ≤ 1048576) :
    Calls Try.prog 55 #[.pointer (some ⟨p, 0, none⟩), .int .i64 s] w fun e w' => e = .returned (.int .i64 (ncC J n fl s)) ∧ Below w.heap.size w w' := by
  have HA := Lib.hid hA
  have HL := Lib.hid lf
  have hpl : p < w.heap.size := World.block_lt_of_cell? w _ hp0
  clear hA lf
  cases k1 : netOk J n fl
  · have H := Lib.hid (nc_1 (s := s) k1)
    go_enter Try.func55, Try.ntmps55
    go_wp2_with ((go_at_call 73; refine (l04Ok_any _ p J A n k fl (by first | exact hp0 | simp [go_sem]) (by first | exact hp1 | simp [go_sem]) (HA.out.below (by repeat (first | exact Below.refl _ _ | assumption | apply bl_alloc | apply bl_drewN | apply Below.drew | (refine bl_set ?_ (by first | exact Nat.le_refl _ | (simp; done) | (simp; omega)) _) | (refine bl_trans ?_ (by assumption))))) HL.out hm).mono ?_; rintro e w1 ⟨rfl, hb1⟩; have hp0 := (hb1.cell (p := ⟨p, 0, none⟩) hpl).trans hp0; have hp1 := (hb1.cell (p := ⟨p, 1, none⟩) hpl).trans hp1))
    go_ret
    exact ⟨ret_int H.out.symm, by repeat (first | exact Below.refl _ _ | assumption | apply bl_alloc | apply bl_drewN | apply Below.drew | (refine bl_set ?_ (by first | exact Nat.le_refl _ | (simp; done) | (simp; omega)) _) | (refine bl_trans ?_ (by assumption)))⟩
  · have N := Lib.hid (netOk_of k1)
    have j1 := N.out.1.1
    have j2 := N.out.1.2
    cases k2 : inR s 1 (J - 1)
    · have H := Lib.hid (nc_2 k1 k2)
      go_enter Try.func55, Try.ntmps55
      go_wp2_with (first | (go_at_call 73; refine (l04Ok_any _ p J A n k fl (by first | exact hp0 | simp [go_sem]) (by first | exact hp1 | simp [go_sem]) (HA.out.below (by repeat (first | exact Below.refl _ _ | assumption | apply bl_alloc | apply bl_drewN | apply Below.drew | (refine bl_set ?_ (by first | exact Nat.le_refl _ | (simp; done) | (simp; omega)) _) | (refine bl_trans ?_ (by assumption))))) HL.out hm).mono ?_; rintro e w1 ⟨rfl, hb1⟩; have hp0 := (hb1.cell (p := ⟨p, 0, none⟩) hpl).trans hp0; have hp1 := (hb1.cell (p := ⟨p, 1, none⟩) hpl).trans hp1) | (go_at_call 40; refine (l00In_any _ _ _ _).mono ?_; rintro e w' ⟨rfl, rfl⟩))
      go_ret
      exact ⟨ret_int H.out.symm, by repeat (first | exact Below.refl _ _ | assumption | apply bl_alloc | apply bl_drewN | apply Below.drew | (refine bl_set ?_ (by first | exact Nat.le_refl _ | (simp; done) | (simp; omega)) _) | (refine bl_trans ?_ (by assumption)))⟩
    · have H := Lib.hid (nc_3 k1 k2)
      go_enter Try.func55, Try.ntmps55
      go_wp2_with (first | (go_at_call 73; refine (l04Ok_any _ p J A n k fl (by first | exact hp0 | simp [go_sem]) (by first | exact hp1 | simp [go_sem]) (HA.out.below (by repeat (first | exact Below.refl _ _ | assumption | apply bl_alloc | apply bl_drewN | apply Below.drew | (refine bl_set ?_ (by first | exact Nat.le_refl _ | (simp; done) | (simp; omega)) _) | (refine bl_trans ?_ (by assumption))))) HL.out hm).mono ?_; rintro e w1 ⟨rfl, hb1⟩; have hp0 := (hb1.cell (p := ⟨p, 0, none⟩) hpl).trans hp0; have hp1 := (hb1.cell (p := ⟨p, 1, none⟩) hpl).trans hp1) | (go_at_call 40; refine (l00In_any _ _ _ _).mono ?_; rintro e w' ⟨rfl, rfl⟩))
      go_ret
      exact ⟨ret_int H.out.symm, by repeat (first | exact Below.refl _ _ | assumption | apply bl_alloc | apply bl_drewN | apply Below.drew | (refine bl_set ?_ (by first | exact Nat.le_refl _ | (simp; done) | (simp; omega)) _) | (refine bl_trans ?_ (by assumption)))⟩
/-- the sums of the junctions, as a block -/
def Sums (wr : World) (g jn : Nat) (q : Int → Int) : Prop := ∃ cur T, wr.heap[g]? = some (.cells cur T (0, 0)) ∧ cur.size = jn ∧ ∀ j, j < jn → cur[j]? = some (.int .i64 (q (j : Int)))
theorem Sums.at {wr : World} {g jn a : Nat} {q : Int → Int} (h : Sums wr g jn q) (ha : a < jn) : wr.cell? ⟨g, a, none⟩ = some (.int .i64 (q (a : Int))) ∧ wr.frozen? ⟨g, a, none⟩ = false := by
  obtain ⟨cur, T, hg, hs, hc⟩ := h
  exact ⟨(cell_of_row wr _ a cur T (0, 0) hg).trans (hc a ha), frozen_of_row wr _ a cur T hg⟩
theorem Sums.lt {wr : World} {g jn : Nat} {q : Int → Int} (h : Sums wr g jn q) : g < wr.heap.size := by
  obtain ⟨cur, T, hg, hs, hc⟩ := h
  exact blk_lt hg
theorem Sums.set {wr : World} {g jn a : Nat} {q : Int → Int} {x : Int} (h : Sums wr g jn q) (ha : a < jn) : Sums (wr.setCell ⟨g, a, none⟩ (.int .i64 x)) g jn (fun j => if j = (a : Int) then x else q j) := by
  obtain ⟨cur, T, hg, hs, hc⟩ := h
  refine ⟨_, T, heap_setCell_same wr g a cur T _ hg, by simpa using hs, fun j hj => ?_⟩
  by_cases e : j = a
  · subst e
    rw [Array.getElem?_setIfInBounds_self_of_lt (by omega)]
    simp
  · rw [Array.getElem?_setIfInBounds_ne (Ne.symm e), hc j hj]
    show _ = some (Value.int .i64 (if (j : Int) = (a : Int) then x else q (j : Int)))
    rw [if_neg (by omega)]
theorem Sums.drew {wr : World} {g jn : Nat} {q : Int → Int} (h : Sums wr g jn q) : Sums wr.drew g jn q := h
theorem Sums.congr {wr : World} {g jn : Nat} {q q' : Int → Int} (h : Sums wr g jn q) (e : ∀ j : Nat, j < jn → q' (j : Int) = q (j : Int)) : Sums wr g jn q' := by
  obtain ⟨cur, T, hg, hs, hc⟩ := h
  exact ⟨cur, T, hg, hs, fun j hj => by rw [hc j hj, e j hj]⟩
theorem Sums.start (w : World) (jn : Nat) (T : TypeId) (q : Int → Int) (hq : ∀ j, q j = 0) : Sums (w.alloc (.cells (madeCells #[.int .i64 0] jn) T)) w.heap.size jn q := by
  refine ⟨_, T, heap_alloc_new _ _, by simp [madeCells], fun j hj => ?_⟩
  rw [hq]
  simp [madeCells, hj, Nat.mod_one]
theorem outTo_0 (fl fs : List Int) (j : Int) : outTo fl fs j 0 = 0 := rfl
theorem outTo_step {fl fs : List Int} {k a b : Nat} (ha : dF fl k = (a : Int)) (hb : dT fl k = (b : Int)) (hab : a ≠ b) (j : Int) :
    outTo fl fs j (k + 1) = (if j = (b : Int) then outTo fl fs (b : Int) k - gt fs k else if j = (a : Int) then outTo fl fs (a : Int) k + gt fs k else outTo fl fs j k) := by
  by_cases e1 : j = (a : Int)
  · rw [outTo_F (e1.trans ha.symm), if_neg (by omega), if_pos e1, e1]
  · by_cases e2 : j = (b : Int)
    · rw [outTo_T (by omega) (e2.trans hb.symm), if_pos e2, e2]
    · rw [outTo_N (by omega) (by omega), if_neg e2, if_neg e1]

end Go.Proofs.Ytcgnnlgakfndaaa
