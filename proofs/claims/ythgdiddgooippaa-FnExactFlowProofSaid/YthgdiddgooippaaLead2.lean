/-
  Contracts on nets: the reference's test whether flows lead water to the outlet, and its code. They hold for lists of at most 1048576 numbers.
-/
import Derived.Test.YthgdiddgooippaaLead
import Derived.StillTailTactics
namespace Go.Proofs.Ythgdiddgooippaa
set_option linter.unusedVariables false
open Go.RowKit

set_option maxHeartbeats 800000 in
theorem l04Code_any (w : World) (p : Nat) (J s : Int) (A : Option Addr) (n k : Nat) (fl : List Int) (hp0 : w.cell? ⟨p, 0, none⟩ = some (.int .i64 J)) (hp1 : w.cell? ⟨p, 1, none⟩ = some (.slice A n k)) (hA : RC w A (ints fl)) (lf : fl.length = n * 3) (hm : n ≤ 1048576) :
    Calls Try.prog 58 #[.pointer (some ⟨p, 0, none⟩), .int .i64 s] w fun e w' => e = .returned (.int .i64 (ncC J n fl s)) ∧ Below w.heap.size w w' := by
  have HA := Lib.hid hA
  have HL := Lib.hid lf
  have hpl : p < w.heap.size := World.block_lt_of_cell? w _ hp0
  clear hA lf
  cases k1 : netOk J n fl
  · have H := Lib.hid (nc_1 (s := s) k1)
    go_enter Try.func58, Try.ntmps58
    go_wp2_with ((go_at_call 41; refine (l04Ok_any _ p J A n k fl (by first | exact hp0 | simp [go_sem]) (by first | exact hp1 | simp [go_sem]) (HA.out.below (by repeat (first | exact Below.refl _ _ | assumption | apply bl_alloc | apply bl_drewN | apply Below.drew | (refine bl_set ?_ (by first | exact Nat.le_refl _ | (simp; done) | (simp; omega)) _) | (refine bl_trans ?_ (by assumption))))) HL.out hm).mono ?_; rintro e w1 ⟨rfl, hb1⟩; have hp0 := (hb1.cell (p := ⟨p, 0, none⟩) hpl).trans hp0; have hp1 := (hb1.cell (p := ⟨p, 1, none⟩) hpl).trans hp1))
    go_ret
    exact ⟨ret_int H.out.symm, by repeat (first | exact Below.refl _ _ | assumption | apply bl_alloc | apply bl_drewN | apply Below.drew | (refine bl_set ?_ (by first | exact Nat.le_refl _ | (simp; done) | (simp; omega)) _) | (refine bl_trans ?_ (by assumption)))⟩
  · have N := Lib.hid (netOk_of k1)
    have j1 := N.out.1.1
    have j2 := N.out.1.2
    cases k2 : inR s 1 (J - 1)
    · have H := Lib.hid (nc_2 k1 k2)
      go_enter Try.func58, Try.ntmps58
      go_wp2_with (first | (go_at_call 41; refine (l04Ok_any _ p J A n k fl (by first | exact hp0 | simp [go_sem]) (by first | exact hp1 | simp [go_sem]) (HA.out.below (by repeat (first | exact Below.refl _ _ | assumption | apply bl_alloc | apply bl_drewN | apply Below.drew | (refine bl_set ?_ (by first | exact Nat.le_refl _ | (simp; done) | (simp; omega)) _) | (refine bl_trans ?_ (by assumption))))) HL.out hm).mono ?_; rintro e w1 ⟨rfl, hb1⟩; have hp0 := (hb1.cell (p := ⟨p, 0, none⟩) hpl).trans hp0; have hp1 := (hb1.cell (p := ⟨p, 1, none⟩) hpl).trans hp1) | (go_at_call 50; refine (l00In_any _ _ _ _).mono ?_; rintro e w' ⟨rfl, rfl⟩))
      go_ret
      exact ⟨ret_int H.out.symm, by repeat (first | exact Below.refl _ _ | assumption | apply bl_alloc | apply bl_drewN | apply Below.drew | (refine bl_set ?_ (by first | exact Nat.le_refl _ | (simp; done) | (simp; omega)) _) | (refine bl_trans ?_ (by assumption)))⟩
    · have H := Lib.hid (nc_3 k1 k2)
      go_enter Try.func58, Try.ntmps58
      go_wp2_with (first | (go_at_call 41; refine (l04Ok_any _ p J A n k fl (by first | exact hp0 | simp [go_sem]) (by first | exact hp1 | simp [go_sem]) (HA.out.below (by repeat (first | exact Below.refl _ _ | assumption | apply bl_alloc | apply bl_drewN | apply Below.drew | (refine bl_set ?_ (by first | exact Nat.le_refl _ | (simp; done) | (simp; omega)) _) | (refine bl_trans ?_ (by assumption))))) HL.out hm).mono ?_; rintro e w1 ⟨rfl, hb1⟩; have hp0 := (hb1.cell (p := ⟨p, 0, none⟩) hpl).trans hp0; have hp1 := (hb1.cell (p := ⟨p, 1, none⟩) hpl).trans hp1) | (go_at_call 50; refine (l00In_any _ _ _ _).mono ?_; rintro e w' ⟨rfl, rfl⟩))
      go_ret
      exact ⟨ret_int H.out.symm, by repeat (first | exact Below.refl _ _ | assumption | apply bl_alloc | apply bl_drewN | apply Below.drew | (refine bl_set ?_ (by first | exact Nat.le_refl _ | (simp; done) | (simp; omega)) _) | (refine bl_trans ?_ (by assumption)))⟩
/-- the sums of the junctions, as a block -/
def Sums (wr : World) (g jn : Nat) (q : Int → Int) : Prop := ∃ cur T, wr.heap[g]? = some (.cells cur T (0, 0)) ∧ cur.size = jn ∧ ∀ j, j < jn → cur[j]? = some (.int .i64 (q (j : Int)))
theorem Sums.at {wr : World} {g jn a : Nat} {q : Int → Int} (h : Sums wr g jn q) (ha : a < jn) : wr.cell? ⟨g, a, none⟩ = some (.int .i64 (q (a : Int))) ∧ wr.frozen? ⟨g, a, none⟩ = false := by
  obtain ⟨cur, T, hg, hs, hc⟩ := h
  exact ⟨(cell_of_row wr _ a cur T (0, 0) hg).trans (hc a ha), frozen_of_row wr _ a cur T hg⟩
theorem Sums.lt {wr : World} {g jn : Nat} {q : Int → Int} (h : Sums wr g jn q) : g < wr.heap.size := by
  obtain ⟨cur, T, hg, hs, hc⟩ := h
  exact blk_lt hg
theorem Sums.set {wr : World} {g jn a : Nat} {q : Int → Int} {x : Int} (h : Sums wr g jn q) (ha : a < jn) : Sums (wr.setCell ⟨g, a, none⟩ (.int .i64 x)) g jn (fun j => if j = (a : Int) then x else q j) := by
  obtain ⟨cur, T, hg, hs, hc⟩ := h
  refine ⟨_, T, heap_setCell_same wr g a cur T _ hg, by simpa using hs, fun j hj => ?_⟩
  by_cases e : j = a
  · subst e
    rw [Array.getElem?_setIfInBounds_self_of_lt (by omega)]
    simp
  · rw [Array.getElem?_setIfInBounds_ne (Ne.symm e), hc j hj]
    show _ = some (Value.int .i64 (if (j : Int) = (a : Int) then x else q (j : Int)))
    rw [if_neg (by omega)]
theorem Sums.drew {wr : World} {g jn : Nat} {q : Int → Int} (h : Sums wr g jn q) : Sums wr.drew g jn q := h
theorem Sums.congr {wr : World} {g jn : Nat} {q q' : Int → Int} (h : Sums wr g jn q) (e : ∀ j : Nat, j < jn → q' (j : Int) = q (j : Int)) : Sums wr g jn q' := by
  obtain ⟨cur, T, hg, hs, hc⟩ := h
  exact ⟨cur, T, hg, hs, fun j hj => by rw [hc j hj, e j hj]⟩
theorem Sums.start (w : World) (jn : Nat) (T : TypeId) (q : Int → Int) (hq : ∀ j, q j = 0) : Sums (w.alloc (.cells (madeCells #[.int .i64 0] jn) T)) w.heap.size jn q := by
  refine ⟨_, T, heap_alloc_new _ _, by simp [madeCells], fun j hj => ?_⟩
  rw [hq]
  simp [madeCells, hj, Nat.mod_one]
theorem outTo_0 (fl fs : List Int) (j : Int) : outTo fl fs j 0 = 0 := rfl
theorem outTo_step {fl fs : List Int} {k a b : Nat} (ha : dF fl k = (a : Int)) (hb : dT fl k = (b : Int)) (hab : a ≠ b) (j : Int) :
    outTo fl fs j (k + 1) = (if j = (b : Int) then outTo fl fs (b : Int) k - gt fs k else if j = (a : Int) then outTo fl fs (a : Int) k + gt fs k else outTo fl fs j k) := by
  by_cases e1 : j = (a : Int)
  · rw [outTo_F (e1.trans ha.symm), if_neg (by omega), if_pos e1, e1]
  · by_cases e2 : j = (b : Int)
    · rw [outTo_T (by omega) (e2.trans hb.symm), if_pos e2, e2]
    · rw [outTo_N (by omega) (by omega), if_neg e2, if_neg e1]

set_option maxRecDepth 100000 in
set_option maxHeartbeats 3200000 in
theorem specLead (w : World) (p jn : Nat) (s : Int) (A F : Option Addr) (k0 c : Nat) (fl fs : List Int) (hp0 : w.cell? ⟨p, 0, none⟩ = some (.int .i64 (jn : Int))) (hp1 : w.cell? ⟨p, 1, none⟩ = some (.slice A fs.length k0)) (hA : RC w A (ints fl)) (lf : fl.length = fs.length * 3) (hF : RC w F (ints fs)) (hJ : 2 ≤ jn ∧ jn ≤ 10) (h0s : 1 ≤ s ∧ s ≤ (jn : Int) - 1) (hn : fs.length ≤ 20) (hd : ∀ i, i < fs.length → (0 ≤ dF fl i ∧ dF fl i ≤ (jn : Int) - 1) ∧ (0 ≤ dT fl i ∧ dT fl i ≤ (jn : Int) - 1) ∧ dF fl i ≠ dT fl i ∧ (0 ≤ dW fl i ∧ dW fl i ≤ 1000)) :
    Calls Try.prog 59 #[.pointer (some ⟨p, 0, none⟩), .int .i64 s, .slice F fs.length c] w fun e w' => ∃ x, e = .returned (.tuple #[.int .i64 x, .bool (ldB (jn : Int) fs.length fl fs s)]) ∧ (ldB (jn : Int) fs.length fl fs s = true → x = outTo fl fs s fs.length) ∧ Below w.heap.size w w' := by
  have HA := Lib.hid hA
  have HL := Lib.hid lf
  have HF := Lib.hid hF
  clear hA lf hF
  have HD := Lib.hid hd
  have j1 := hJ.1
  have j2 := hJ.2
  have hpl : p < w.heap.size := World.block_lt_of_cell? w _ hp0
  have HP0 := Lib.hid hp0
  have HP1 := Lib.hid hp1
  clear hd hJ
  obtain ⟨i0, hi, hz0, hz1, hz2⟩ := info_parts infoInt
  have hmk : ∀ W : World, (Instr.makeSlice 44 (.int .i64 (jn : Int)) (.int .i64 (jn : Int))).run Try.prog W =
      .ok (.slice (some ⟨W.heap.size, 0, none⟩) jn jn) (W.alloc (.cells (madeCells #[.int .i64 0] jn) 2)) := fun W => by
    have h := run_make_full_row (P := Try.prog) 44 2 i0 _ Try.underlying44 hi hz0 jn (by rw [hz2]; omega) (by omega) W
    simpa [hz1, Value.cells] using h
  clear hi hz0 hz1 hz2
  go_enter Try.func59, Try.ntmps59
  go_wp2
  clear hp0 hp1
  go_loopg [9] fs.length (fun m i wr => ∃ k, k ≤ fs.length ∧ m = fs.length - k ∧ i = .int .i64 (k : Int) ∧ Hid (allN (flIn fl fs) k = true) ∧ Sums wr w.heap.size jn (fun j => outTo fl fs j k) ∧ Below w.heap.size w wr)
  case atStart => exact ⟨0, Nat.zero_le _, by omega, rfl, Lib.hid rfl, Sums.start _ _ _ _ (fun j => rfl), by repeat (first | exact Below.refl _ _ | assumption | apply bl_alloc | apply bl_drewN | apply Below.drew | (refine bl_set ?_ (by first | exact Nat.le_refl _ | (simp; done) | (simp; omega)) _) | (refine bl_trans ?_ (by assumption)))⟩
  case round =>
    clear hmk
    obtain ⟨k, hk, hgk, rfl, HT, hs, hb⟩ := hrel
    have HGK := Lib.hid hgk
    clear hgk
    have g0 := (hb.cell (p := ⟨p, 0, none⟩) hpl).trans HP0.out
    have g1 := (hb.cell (p := ⟨p, 1, none⟩) hpl).trans HP1.out
    by_cases hlt : k < fs.length
    · have bw := HD.out k hlt
      obtain ⟨b, off, rfl, hbl, hcell⟩ := HA.out (by rw [ints_len, HL.out]; omega)
      obtain ⟨q0, q1, q2⟩ := dit_cells hbl hcell HL.out hlt hb
      obtain ⟨b', off', rfl, hbl', hcell'⟩ := HF.out (by rw [ints_len]; omega)
      have h1 := (hb.cell (p := ⟨b', off' + k, none⟩) hbl').trans (hcell' k (by rw [ints_len]; exact hlt))
      rw [ints_get fs k hlt] at h1
      clear hcell hcell'
      cases hq : flIn fl fs k
      · have hq' : inR (gt fs k) 0 (dW fl k) = false := hq
        have HN := Lib.hid (ld_1 (J := (jn : Int)) (s := s) (allN_no hlt hq))
        clear hs
        go_wp2
        go_quiet (((go_at_call 50; first | with_reducible exact quiet_eq (l00In_any _ _ _ _) | with_reducible exact quiet_add_eq (l00In_any _ _ _ _))))
        go_wp2
        go_ret2
        exact ⟨0, by rw [HN.out]; rfl, fun h => (by rw [HN.out] at h; cases h), by repeat (first | exact Below.refl _ _ | assumption | apply bl_alloc | apply bl_drewN | apply Below.drew | (refine bl_set ?_ (by first | exact Nat.le_refl _ | (simp; done) | (simp; omega)) _) | (refine bl_trans ?_ (by assumption)))⟩
      · have hq' : inR (gt fs k) 0 (dW fl k) = true := hq
        have HY := Lib.hid (allN_yes HT.out hq)
        have FB := flIn_bd HY.out (fun i hi => (HD.out i (by omega)).2.2.2)
        have f1 := FB k (by omega)
        obtain ⟨a, ha⟩ : ∃ a : Nat, dF fl k = (a : Int) := ⟨(dF fl k).toNat, by omega⟩
        obtain ⟨d, hd⟩ : ∃ d : Nat, dT fl k = (d : Int) := ⟨(dT fl k).toNat, by omega⟩
        have bda := outTo_bd (fl := fl) FB (a : Int) k (by omega)
        have bdd := outTo_bd (fl := fl) FB (d : Int) k (by omega)
        have haj : a < jn := by omega
        have hdj : d < jn := by omega
        have had : a ≠ d := by omega
        have haj' : (a : Int) < (jn : Int) := by omega
        have hdj' : (d : Int) < (jn : Int) := by omega
        have hda : ¬ d = a := by omega
        rw [ha] at q0
        rw [hd] at q1
        have ST := Lib.hid (outTo_step (fs := fs) ha hd had)
        obtain ⟨c0, c1⟩ := hs.at haj
        have hgl := hs.lt
        have wa : IntKind.i64.wrap (outTo fl fs (a : Int) k + gt fs k) = outTo fl fs (a : Int) k + gt fs k := IntWalk.i64_in _ (by omega)
        have wd : IntKind.i64.wrap (outTo fl fs (d : Int) k - gt fs k) = outTo fl fs (d : Int) k - gt fs k := IntWalk.i64_in _ (by omega)
        have ws1 := Lib.hid (hs.drew.set (x := outTo fl fs (a : Int) k + gt fs k) haj)
        have HS := Lib.hid hs
        have HBW := Lib.hid bw
        clear FB bw ha hd hs
        go_wp2
        go_quiet (((go_at_call 50; first | with_reducible exact quiet_eq (l00In_any _ _ _ _) | with_reducible exact quiet_add_eq (l00In_any _ _ _ _))))
        go_wp2
        replace q0 : (wr.drewN nq).cell? ⟨b, off + k * 3, none⟩ = some (.int .i64 (a : Int)) := q0
        replace q1 : (wr.drewN nq).cell? ⟨b, off + k * 3 + 1, none⟩ = some (.int .i64 (d : Int)) := q1
        replace q2 : (wr.drewN nq).cell? ⟨b, off + k * 3 + 2, none⟩ = some (.int .i64 (dW fl k)) := q2
        replace h1 : (wr.drewN nq).cell? ⟨b', off' + k, none⟩ = some (.int .i64 (gt fs k)) := h1
        replace g0 : (wr.drewN nq).cell? ⟨p, 0, none⟩ = some (.int .i64 (jn : Int)) := g0
        replace g1 : (wr.drewN nq).cell? ⟨p, 1, none⟩ = some (.slice (some ⟨b, off, none⟩) fs.length k0) := g1
        replace c0 : (wr.drewN nq).cell? ⟨w.heap.size, a, none⟩ = some (.int .i64 (outTo fl fs (a : Int) k)) := c0
        replace c1 : (wr.drewN nq).frozen? ⟨w.heap.size, a, none⟩ = false := c1
        have hs1 : Sums (wr.drewN nq) w.heap.size jn (fun j => outTo fl fs j k) := HS.out
        have hb1 : Below w.heap.size w (wr.drewN nq) := bl_drewN hb _
        clear HS ws1 hb
        generalize wr.drewN nq = W1 at q0 q1 q2 h1 g0 g1 c0 c1 hs1 hb1 ⊢
        have HS1 := Lib.hid hs1
        clear hs1
        go_still_tail 17, (by kernel_rfl)
        change wpList _ _ _ _ _ W1.drew
        go_wp2
        have hgz : w.heap.size ≤ W1.heap.size := hb1.size
        replace q0 : ((W1.setCell ⟨w.heap.size, a, none⟩ (.int .i64 (outTo fl fs (a : Int) k + gt fs k))).drew).cell? ⟨b, off + k * 3, none⟩ = some (.int .i64 (a : Int)) := kc_drew (kc_set q0 (by simp; omega))
        replace q1 : ((W1.setCell ⟨w.heap.size, a, none⟩ (.int .i64 (outTo fl fs (a : Int) k + gt fs k))).drew).cell? ⟨b, off + k * 3 + 1, none⟩ = some (.int .i64 (d : Int)) := kc_drew (kc_set q1 (by simp; omega))
        replace q2 : ((W1.setCell ⟨w.heap.size, a, none⟩ (.int .i64 (outTo fl fs (a : Int) k + gt fs k))).drew).cell? ⟨b, off + k * 3 + 2, none⟩ = some (.int .i64 (dW fl k)) := kc_drew (kc_set q2 (by simp; omega))
        replace h1 : ((W1.setCell ⟨w.heap.size, a, none⟩ (.int .i64 (outTo fl fs (a : Int) k + gt fs k))).drew).cell? ⟨b', off' + k, none⟩ = some (.int .i64 (gt fs k)) := kc_drew (kc_set h1 (by simp; omega))
        replace g0 : ((W1.setCell ⟨w.heap.size, a, none⟩ (.int .i64 (outTo fl fs (a : Int) k + gt fs k))).drew).cell? ⟨p, 0, none⟩ = some (.int .i64 (jn : Int)) := kc_drew (kc_set g0 (by simp; omega))
        replace g1 : ((W1.setCell ⟨w.heap.size, a, none⟩ (.int .i64 (outTo fl fs (a : Int) k + gt fs k))).drew).cell? ⟨p, 1, none⟩ = some (.slice (some ⟨b, off, none⟩) fs.length k0) := kc_drew (kc_set g1 (by simp; omega))
        have hs2 : Sums ((W1.setCell ⟨w.heap.size, a, none⟩ (.int .i64 (outTo fl fs (a : Int) k + gt fs k))).drew) w.heap.size jn (fun j => if j = (a : Int) then outTo fl fs (a : Int) k + gt fs k else outTo fl fs j k) := (HS1.out.set haj).drew
        have hb2 : Below w.heap.size w ((W1.setCell ⟨w.heap.size, a, none⟩ (.int .i64 (outTo fl fs (a : Int) k + gt fs k))).drew) := (bl_set hb1 (Nat.le_refl _) _).drew
        clear c0 c1 hb1 hgz HS1
        generalize (W1.setCell ⟨w.heap.size, a, none⟩ (.int .i64 (outTo fl fs (a : Int) k + gt fs k))).drew = W2 at q0 q1 q2 h1 g0 g1 hs2 hb2 ⊢
        obtain ⟨c0, c1⟩ := hs2.at hdj
        replace c0 : W2.cell? ⟨w.heap.size, d, none⟩ = some (.int .i64 (outTo fl fs (d : Int) k)) := by
          rw [c0, if_neg (by omega)]
        have HS2 := Lib.hid hs2
        clear hs2
        go_still_tail 17, (by kernel_rfl)
        change wpList _ _ _ _ _ W2.drew
        go_wp2
        have hs3 := Lib.hid ((HS2.out.set (x := outTo fl fs (d : Int) k - gt fs k) hdj).drew.congr (q' := fun j => outTo fl fs j (k + 1)) fun j hj => ST.out j)
        have hb3 := Lib.hid (show Below w.heap.size w ((W2.setCell ⟨w.heap.size, d, none⟩ (.int .i64 (outTo fl fs (d : Int) k - gt fs k))).drew) from (bl_set hb2 (Nat.le_refl _) _).drew)
        go_roundg (fs.length - (k + 1))
        case measure => rw [HGK.out]; omega
        case rel => exact ⟨k + 1, by omega, rfl, by go_num, HY, hs3.out, hb3.out⟩
    · obtain rfl : k = fs.length := by omega
      have FB := flIn_bd HT.out fun i hi => (HD.out i hi).2.2.2
      have LF := Lib.hid HT.out
      have HS := Lib.hid hs
      have bds := outTo_bd (fl := fl) FB s fs.length (Nat.le_refl _)
      have FBH := Lib.hid FB
      have hgl := hs.lt
      clear hs FB HT
      go_wp2
      obtain ⟨wo, hwo⟩ : ∃ wo : World, wo = wr := ⟨_, rfl⟩
      go_loopg [10] (jn - 1) (fun m i wi => ∃ k, k ≤ jn - 1 ∧ m = jn - 1 - k ∧ i = .int .i64 (1 + (k : Int)) ∧ Hid (allN (zeroAt fl fs s fs.length) k = true) ∧ wi = wo)
      case atStart => exact ⟨0, Nat.zero_le _, by omega, rfl, Lib.hid rfl, hwo.symm⟩
      case round =>
        obtain ⟨k, hk, hgk, rfl, HT, hwi⟩ := hrel
        subst hwi
        subst hwo
        have HGK := Lib.hid hgk
        clear hgk
        by_cases hlt : k < jn - 1
        · obtain ⟨c0, c1⟩ := HS.out.at (a := 1 + k) (by omega)
          rw [show ((1 + k : Nat) : Int) = 1 + (k : Int) by push_cast; omega] at c0
          have hk1 : 1 + (k : Int) < (jn : Int) := by omega
          by_cases e1 : 1 + (k : Int) = s
          · have HY := Lib.hid (allN_yes HT.out (zero_1 (fl := fl) (fs := fs) (n := fs.length) e1))
            have b1 : (1 + (k : Int) != s) = false := bneI_no e1
            clear e1
            go_wp2
            go_roundg (jn - 1 - (k + 1))
            case measure => rw [HGK.out]; omega
            case rel => exact ⟨k + 1, by omega, rfl, ret_v' (by push_cast; omega), HY, rfl⟩
          · have b1 : (1 + (k : Int) != s) = true := bneI_yes e1
            by_cases e2 : outTo fl fs (1 + (k : Int)) fs.length = 0
            · have HY := Lib.hid (allN_yes HT.out (zero_2 (s := s) e2))
              have b2 : (outTo fl fs (1 + (k : Int)) fs.length != 0) = false := bneI_no e2
              clear e1 e2
              go_wp2
              go_roundg (jn - 1 - (k + 1))
              case measure => rw [HGK.out]; omega
              case rel => exact ⟨k + 1, by omega, rfl, ret_v' (by push_cast; omega), HY, rfl⟩
            · have HN := Lib.hid (ld_3 (J := (jn : Int)) (allN_no (q := zeroAt fl fs s fs.length) (n := ((jn : Int) - 1).toNat) (k := k) (by omega) (zero_3 e1 e2)))
              have b2 : (outTo fl fs (1 + (k : Int)) fs.length != 0) = true := bneI_yes e2
              clear e1 e2
              go_wp2
              go_ret2
              exact ⟨0, by rw [HN.out]; rfl, fun h => (by rw [HN.out] at h; cases h), hb⟩
        · obtain rfl : k = jn - 1 := by omega
          have LD := Lib.hid (ld_4 (J := (jn : Int)) (s := s) LF.out (by rw [show ((jn : Int) - 1).toNat = jn - 1 by omega]; exact HT.out) h0s)
          obtain ⟨a, rfl⟩ : ∃ a : Nat, s = (a : Int) := ⟨s.toNat, by omega⟩
          obtain ⟨c0, c1⟩ := HS.out.at (a := a) (by omega)
          have hal : (a : Int) < (jn : Int) := by omega
          have haj : a < jn := by omega
          have hk1 : ¬ 1 + ((jn - 1 : Nat) : Int) < (jn : Int) := by omega
          go_wp2
          go_quiet (fail)
          go_wp2
          go_ret2
          exact ⟨outTo fl fs (a : Int) fs.length, by rw [LD.out]; rfl, fun _ => rfl, by repeat (first | exact Below.refl _ _ | assumption | apply bl_alloc | apply bl_drewN | apply Below.drew | (refine bl_set ?_ (by first | exact Nat.le_refl _ | (simp; done) | (simp; omega)) _) | (refine bl_trans ?_ (by assumption)))⟩
end Go.Proofs.Ythgdiddgooippaa
