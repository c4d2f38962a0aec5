/-
  Contracts: what can be reached along ditches, the program. They hold for every net of at most 1048576 ditches.
-/
import Derived.IntWalk
import Derived.Maps.Own
import Derived.Maps.OwnOps
import Derived.Maps.OwnSet
import Derived.Maps.Views
import Derived.Laws.EntriesVeiled
import Derived.Test.YtcgnnlgakfndaaaReachS
import Derived.Test.YtcgnnlgakfndaaaHas
import Derived.Test.YtcgnnlgakfndaaaCut
import Derived.Deep.RegionHeld3
import Derived.Deep.AppendLies
import Derived.Deep.DeepCutAuto
namespace Go.Proofs.Ytcgnnlgakfndaaa
set_option linter.unusedVariables false
set_option linter.unusedSimpArgs false
open Go.RowKit

open Go.Maps
theorem hmf2 : ∀ (fn : Fn) (first cap : Array Value) (w : World), (Instr.makeFunc fn first cap).run Try.prog w = .ok (.func fn first cap) w := fun _ _ _ _ => rfl
theorem zeroI (w : World) : (zeroValue 2).run Try.prog w = .ok (.int .i64 0) w := by kernel_rfl
theorem lawI : Keyed Try.prog 2 := int_keyed Try.underlying2
/-- an entry of a map that is written out -/
theorem wpList_insert_own {H : Type} {P : Program} (w : World) {ops : Array Oper} {rest : List Oper} {o : Oper} {a : Act} {Q : Exit → Act → World → Prop}
    (hg : o.guard = none) (m x v : Operand) (t : TypeId) (hop : o.op = Op.insert t m x v)
    (k e : TypeId) (K : Keyed P k) (ht : P.underlying t = some (.map k e)) (R : Value → Option (DataW H × List MemPlace)) (b n : Nat) (D : DataW H)
    (hm : a.eval m = .map (some b)) (hown : w.ownsMap P k R b n D) (hn : n < maxLen) (key val : Value) (kl : Lit) (hx : a.eval x = key) (hv : a.eval v = val) (hkey : keyOf P k key = some kl)
    (d : DataW H) (ps : List MemPlace) (hval : R val = some (d, ps))
    (hK : ∀ w', w'.ownsMap P k R b (n + 1) (D.put kl d) → w.grownBy w' (some b) → wpList P ops Q rest (a.put o.dst undef) w') :
    wpList P ops Q (o :: rest) a w := by
  refine wpList_plain hg fun K' hK' => ?_
  obtain ⟨w', hrun, r1, r2⟩ := hown.update K ht hn hkey hval
  unfold Oper.wp
  simp [execOp, hop, hm, hx, hv, hrun, Result.andThen]
  exact hK' _ _ (hK w' r1 r2)
theorem own_made_at {H : Type} {W : World} {P : Program} {k : TypeId} {R : Value → Option (DataW H × List MemPlace)} {g : Nat} (hg : W.heap.size = g) : (W.alloc (.map #[] 0)).ownsMap P k R g 0 (.map []) := by
  subst hg
  exact World.ownsMap_made _ _ _ _
def inL (L : List Int) (j : Nat) : Bool := hasB L (j : Int)
def addL (L : List Int) (x : Int) : List Int := if hasB L x then L else L ++ [x]
theorem addL_yes {L : List Int} {x : Int} (h : hasB L x = true) : addL L x = L := by simp [addL, h]
theorem addL_no {L : List Int} {x : Int} (h : hasB L x = false) : addL L x = L ++ [x] := by simp [addL, h]
/-- the state: a list in the cell LB, a map with the list's numbers as its keys in the cell MB -/
structure RS (w : World) (B LB MB r g c : Nat) (L : List Int) : Prop where
  lbx : w.heap[LB]? = some (.cells #[.slice (some ⟨g, 0, none⟩) L.length c] 22 (0, 0))
  own : w.ownsRow B 2 1 (.slice (some ⟨g, 0, none⟩) L.length c) L.length (ints L)
  mbx : w.heap[MB]? = some (.cells #[.map (some r)] 90 (0, 0))
  map : ∃ D : DataW Unit, w.ownsMap Try.prog 2 (plainElem Try.prog 2) r L.length D ∧ IsMap D ∧ ∀ x, (Lit.int .i64 x).wf = true → has D (.int .i64 x) = hasB L x
  ne : g ≠ LB ∧ g ≠ MB ∧ g ≠ r ∧ LB ≠ MB ∧ LB ≠ r ∧ MB ≠ r
  ge : B ≤ LB ∧ B ≤ MB ∧ B ≤ r
theorem RS.below {w w1 : World} {B LB MB r g c : Nat} {L : List Int} (h : RS w B LB MB r g c L) (hb : Below w.heap.size w w1) : RS w1 B LB MB r g c L := by
  have g1 : w.grownBy w1 none := ⟨hb.os, hb.tape, hb.output, hb.size, fun k hk _ => hb.block k hk⟩
  obtain ⟨D, d1, d2, d3⟩ := h.map
  exact ⟨keep_blk (hb := hb) (h := h.lbx), h.own.kept g1 (.inr (by simp [Value.ownBlock])), keep_blk (hb := hb) (h := h.mbx), ⟨D, d1.kept g1 (by simp), d2, d3⟩, h.ne, h.ge⟩
def Keep (w w' : World) (LB r g : Nat) : Prop := ∀ j o, j ≠ LB → j ≠ r → j ≠ g → w.heap[j]? = some o → w'.heap[j]? = some o
/-- what 'add' leaves -/
def Added (w : World) (B LB MB r g : Nat) (L : List Int) (e : Ending) (w' : World) : Prop :=
  ∃ g' c', e = .returned (.tuple #[]) ∧ RS w' B LB MB r g' c' L ∧ Keep w w' LB r g ∧ Below B w w'
set_option maxRecDepth 100000 in
set_option maxHeartbeats 3200000 in
theorem add_any (w : World) (B LB MB r g c : Nat) (L : List Int) (x d : Int) (h : RS w B LB MB r g c L) (hB : B ≤ w.heap.size) (hl : L.length ≤ 1000) (hx : 0 ≤ x ∧ x ≤ 100) (hd : 0 ≤ d ∧ d ≤ 100) :
    Calls Try.prog 78 #[.int .i64 x, .int .i64 d, .pointer (some ⟨MB, 0, none⟩), .pointer (some ⟨LB, 0, none⟩)] w (Added w B LB MB r g (addL L x)) := by
  have HS := Lib.hid h
  obtain ⟨D, d1, d2, d3⟩ := h.map
  have hwx : (Lit.int .i64 x).wf = true := WalkArith.wf_i64 (by omega)
  have hwd : (Lit.int .i64 d).wf = true := WalkArith.wf_i64 (by omega)
  have hkx : keyOf Try.prog 2 (.int .i64 x) = some (.int .i64 x) := keyOf_int_mk Try.underlying2 hwx
  have HD := Lib.hid d1
  have HM := Lib.hid d2
  have H3 := Lib.hid d3
  have h3 := d3 x hwx
  obtain ⟨m0, ml⟩ := row_one h.mbx
  obtain ⟨l0, ll⟩ := row_one h.lbx
  have lf : w.frozen? ⟨LB, 0, none⟩ = false := frozen_of_row w LB 0 _ _ h.lbx
  have LK := fun (Q' : World → Prop) => True
  have LOOK : ∀ c0 : Int, D.atKey (.int .i64 x) (.lit (.int .i64 0)) = .lit (.int .i64 c0) → True := fun _ _ => trivial
  clear d1 d2 d3 h LK LOOK
  cases hq : hasB L x
  · rw [hq] at h3
    have HA := Lib.hid (addL_no hq)
    have HN := Lib.hid hq
    obtain ⟨i0, hi, hz0, hz1, hz2⟩ := info_parts infoInt
    clear hq
    go_enter Try.func78, Try.ntmps78
    go_wp2_with (first | (at_lookup; refine wpList_lookup_own_ok_int _ rfl _ _ 90 rfl 2 2 .i64 lawI Try.underlying90 Try.underlying2 (zeroI _) r L.length D rfl HD.out _ _ rfl hkx ?_; intro c0 hat0 hwc0; clear hat0 hwc0) | (at_mapUpdate; refine wpList_mapUpdate_own _ rfl _ _ _ 90 rfl 2 2 lawI Try.underlying90 _ r L.length D rfl HD.out (by unfold maxLen; omega) _ _ _ rfl rfl hkx _ [] (plainElem_int Try.underlying2 hwd) ?_; intro w1 hm1 hg1; have HM1 := Lib.hid hm1; have HG1 := Lib.hid hg1; have kl1 : w1.heap[LB]? = some (.cells #[.slice (some ⟨g, 0, none⟩) (List.length L) c] 22 (0, 0)) := (hg1.block LB ll (fun e => HS.out.ne.2.2.2.2.1 (Option.some.inj e))).trans HS.out.lbx; obtain ⟨p0, pl⟩ := row_one kl1; have pf : w1.frozen? ⟨LB, 0, none⟩ = false := frozen_of_row w1 LB 0 _ _ kl1; have own1 := Lib.hid (HS.out.own.kept hg1 (.inr (fun (e : some g = some r) => HS.out.ne.2.2.1 (Option.some.inj e)))); have zz := hg1.size; clear hm1 hg1 m0 l0 lf ll ml) | (at_builtin; refine wpList_append_lies _ rfl _ _ 22 rfl B 2 i0 (.int .i64 0) 1 8 Try.underlying22 hi hz0 hz1 hz2 rfl (by decide) (.slice (some ⟨g, 0, none⟩) (List.length L) c) (List.length L) (ints L) rfl (own1.out.alloc _) ⟨w1.heap.size, 0, none⟩ 1 1 [.int .i64 x] rfl rfl (app_news (heap_alloc_new w1 _)) (app_one _) (by decide) (by unfold maxLen; omega) (by omega) (by simp; omega) (w1.heap.size + 1) (by simp) ?_; intro g2 cap w3 hown3 hgrow3 hat3 hlt3; have kl3 : w3.heap[LB]? = some (.cells #[.slice (some ⟨g, 0, none⟩) (List.length L) c] 22 (0, 0)) := (hgrow3.block LB (by simp; omega) (fun (e : some LB = some g) => HS.out.ne.1 (Option.some.inj e).symm)).trans (blk_old kl1); obtain ⟨q0, ql⟩ := row_one kl3; have qf : w3.frozen? ⟨LB, 0, none⟩ = false := frozen_of_row w3 LB 0 _ _ kl3; have HO3 := Lib.hid hown3; have HG3 := Lib.hid hgrow3; have HAT := Lib.hid hat3; clear hown3 hgrow3 hat3 hlt3 p0 pl pf kl1))
    go_end0
    have hs := HS.out
    have z1 := HG1.out.size
    have z3 := HG3.out.size
    have g2n : g2 = g ∨ g2 = w1.heap.size + 1 := by
      rcases HAT.out with e | e
      · simp [Value.ownBlock] at e
        exact .inl e.symm
      · exact .inr e
    have gl := (hs.own.lt g rfl).2
    have kr : ∀ (j : Nat) (o : Obj), j ≠ LB → j ≠ r → j ≠ g → w.heap[j]? = some o → (w3.setCell ⟨LB, 0, none⟩ (.slice (some ⟨g2, 0, none⟩) (L.length + 1) cap)).heap[j]? = some o := fun j o h1 h2 h3 hj => by
      have hjl := (Array.getElem?_eq_some_iff.1 hj).1
      refine kb_set ?_ h1
      refine (HG3.out.block j (by simp; omega) (by simp [Value.ownBlock]; exact h3)).trans (blk_old ?_)
      exact (HG1.out.block j hjl (fun e => h2 (Option.some.inj e))).trans hj
    have mlt := blk_lt hs.mbx
    have rlt := HD.out.lt
    refine ⟨g2, cap, rfl, ?_, kr, ?_⟩
    · rw [HA.out]
      refine ⟨?_, ?_, kr MB _ (fun e => hs.ne.2.2.2.1 e.symm) hs.ne.2.2.2.2.2 (fun e => hs.ne.2.1 e.symm) hs.mbx, ?_, ⟨?_, ?_, ?_, hs.ne.2.2.2⟩, hs.ge⟩
      · rw [List.length_append, List.length_singleton]
        exact heap_setCell_same w3 LB 0 _ _ _ kl3
      · rw [List.length_append, List.length_singleton]
        have ho : w3.ownsRow B 2 1 (.slice (some ⟨g2, 0, none⟩) (L.length + 1) cap) (L.length + 1) (ints (L ++ [x])) := by simpa [ints] using HO3.out
        refine ⟨ho.1, ?_⟩
        rcases ho.2 with hn | ⟨gg, cp, cur, e, hb', hg', rest⟩
        · exact .inl hn
        · refine .inr ⟨gg, cp, cur, e, hb', (Below.heap_setCell w3 _ _ gg ?_).trans hg', rest⟩
          cases e
          have := hs.ne.1
          have := blk_lt hs.lbx
          simp
          omega
      · refine ⟨D.put (.int .i64 x) (.lit (.int .i64 d)), ?_, HM.out.put _ _, fun y hy => ?_⟩
        · rw [List.length_append, List.length_singleton]
          refine World.ownsMap.setCell ((HM1.out.alloc _).kept HG3.out ?_) ?_ _
          · simp [Value.ownBlock]
            exact fun e => hs.ne.2.2.1 e.symm
          · exact fun e => hs.ne.2.2.2.2.1 e.symm
        · by_cases e : y = x
          · subst e
            rw [has_put_same (k := .int .i64 _) HM.out trivial]
            simp [hasB]
          · rw [has_put_other (fun e' => e (by cases e'; rfl)), H3.out y hy]
            simp [hasB, e]
      · have := hs.ne.1
        have := blk_lt hs.lbx
        omega
      · have := hs.ne.2.1
        omega
      · have := hs.ne.2.2.1
        omega
    · have b1 : Below B w w1 := ⟨HG1.out.os, HG1.out.tape, HG1.out.output, z1, fun j hj => HG1.out.block j (by omega) (fun e => by have := hs.ge.2.2; have := Option.some.inj e; omega)⟩
      have b2 : Below B w (w1.alloc (.cells #[.int .i64 x] 2)) := b1.alloc (by omega) _
      have b3 : Below B w w3 := b2.grown HG3.out (by simp; omega) (fun k hk => by simp [Value.ownBlock] at hk; have := (hs.own.lt g rfl).1; omega)
      exact b3.setCell hs.ge.1 _
  · rw [hq] at h3
    have HA := Lib.hid (addL_yes hq)
    clear hq
    go_enter Try.func78, Try.ntmps78
    go_wp2_with (at_lookup; refine wpList_lookup_own_ok_int _ rfl _ _ 90 rfl 2 2 .i64 lawI Try.underlying90 Try.underlying2 (zeroI _) r L.length D rfl HD.out _ _ rfl hkx ?_; intro c0 hat0 hwc0; clear hat0 hwc0)
    go_end0
    exact ⟨g, c, rfl, by rw [HA.out]; exact HS.out, fun _ _ _ _ _ h => h, Below.refl _ _⟩
set_option maxHeartbeats 400000 in
theorem inL_any (w : World) (LB : Nat) (X : Option Addr) (c : Nat) (L : List Int) (j : Nat) (hl : w.cell? ⟨LB, 0, none⟩ = some (.slice X L.length c)) (hX : RC w X (ints L)) (hm : L.length ≤ 1048576) :
    Calls Try.prog 80 #[.int .i64 (j : Int), .pointer (some ⟨LB, 0, none⟩)] w fun e w' => e = .returned (.bool (inL L j)) ∧ ∃ d, w' = w.drewN d := by
  have HX := Lib.hid hX
  clear hX
  go_enter Try.func80, Try.ntmps80
  go_wp2_with (go_at_call 52; refine (has_any _ _ _ L (j : Int) HX.out hm).mono ?_; rintro e w' ⟨rfl, rfl⟩)
  go_ret
  exact ⟨rfl, 0, rfl⟩
set_option maxHeartbeats 800000 in
theorem idxReach (w : World) (q : Nat) (X : Option Addr) (c N : Nat) (L : List Int) (hq : w.cell? ⟨q, 0, none⟩ = some (.slice X L.length c)) (hX : RC w X (ints L)) (hm : L.length ≤ 1048576) (hN : N ≤ 1048576) :
    Calls Try.prog 79 #[.int .i64 (N : Int), .func (.func 80) #[] #[.pointer (some ⟨q, 0, none⟩)]] w (NewInts (idxTo (inL L) N) w) := by
  have HQ := Lib.hid hq
  have HX := Lib.hid hX
  clear hq hX
  obtain ⟨i0, hi, hz0, hz1, hz2⟩ := info_parts infoInt
  go_enter Try.func79, Try.ntmps79
  go_wp2
  go_loopg [5, 6] N (fun m v i wr => AppRel 2 (idxTo (inL L)) N w m i v wr)
  case atStart => exact ⟨0, Nat.zero_le _, by omega, rfl, own_lit _ (Below.refl _ _), bl_alloc (Below.refl _ _) _⟩
  case round =>
    obtain ⟨k, hk, hgk, rfl, hown, hb⟩ := hrel
    have HGK := Lib.hid hgk
    clear hgk
    have hlen := idxTo_len (inL L) k
    by_cases hlt : k < N
    · skip
      cases hq : (inL L) k
      · have HS := Lib.hid (idxTo_no hq)
        go_wp2_with (go_at_call 80; refine (inL_any _ q X c L k (cell_b hb HQ.out) (HX.out.below hb) hm).mono ?_; rintro e w' ⟨rfl, d, rfl⟩)
        go_roundg (N - (k + 1))
        case measure => rw [HGK.out]; omega
        case rel => exact ⟨k + 1, by omega, rfl, by go_num, by rw [HS.out]; exact own_dr hown _, bl_drewN hb _⟩
      · have HS := Lib.hid (idxTo_yes hq)
        go_wp2_with (first | (go_at_call 80; refine (inL_any _ q X c L k (cell_b hb HQ.out) (HX.out.below hb) hm).mono ?_; rintro e w' ⟨rfl, d, rfl⟩) | (at_builtin; refine wpList_append_own _ rfl _ _ 22 rfl w.heap.size 2 i0 (.int .i64 0) 1 8 Try.underlying22 hi hz0 hz1 hz2 rfl (by decide) _ _ _ rfl ((own_dr hown _).alloc _) ⟨wr.heap.size, 0, none⟩ 1 1 [.int .i64 (k : Int)] rfl rfl (by first | exact app_news (heap_alloc_new _ _) | exact app_news (heap_alloc_new wr _)) (app_one _) (by have := hlen; unfold maxLen; omega) (by have := hlen; omega) (by have := hb.size; simp; omega) ?_; intro v' w1 hown' hgrow _))
        have R1 := Lib.hid (app_own hown' HS.out)
        have R2 := Lib.hid (app_below (bl_alloc (bl_drewN hb _) _) ((own_dr hown _).alloc _) hgrow)
        go_roundg (N - (k + 1))
        case measure => rw [HGK.out]; omega
        case rel => exact ⟨k + 1, by omega, rfl, by go_num, R1.out, R2.out⟩
    · obtain rfl : k = N := by omega
      go_wp2
      go_ret
      exact new_end hown hb
/-- what the walk of the program leaves -/
def ReachR (n : Nat) (fl : List Int) (s : Int) (jn : Nat) (w : World) (e : Ending) (w' : World) : Prop :=
  ∃ A c r, e = .returned (.tuple #[.slice A (idxTo (rchB n fl s) jn).length c, .map (some r)]) ∧ OwnC w.heap.size w'.heap.size w' A (ints (idxTo (rchB n fl s) jn)) ∧ Below w.heap.size w w'
set_option maxRecDepth 100000 in
set_option maxHeartbeats 12800000 in
theorem reached_any (w : World) (jn sn : Nat) (A : Option Addr) (n k0 bF : Nat) (fl : List Int)
    (hA : RC w A (ints fl)) (lf : fl.length = n * 3) (hn : n ≤ 20) (hj : 2 ≤ jn ∧ jn ≤ 10) (hs : 1 ≤ sn ∧ sn < jn) (hF : ∀ i, i < n → w.cell? ⟨bF, i, none⟩ = some (.int .i64 0)) (hbF : bF < w.heap.size)
    (hv : ∀ i, i < n → ((0 ≤ dF fl i ∧ dF fl i ≤ (jn : Int) - 1) ∧ (0 ≤ dT fl i ∧ dT fl i ≤ (jn : Int) - 1) ∧ dF fl i ≠ dT fl i ∧ (0 ≤ dW fl i ∧ dW fl i ≤ 1000))) :
    Calls Try.prog 61 #[.agg #[.int .i64 (jn : Int), .slice A n k0], .int .i64 ((sn : Nat) : Int), .slice (some ⟨bF, 0, none⟩) n n] w (ReachR n fl ((sn : Nat) : Int) jn w) := by
  have HA := Lib.hid hA
  have HL := Lib.hid lf
  have HF := Lib.hid hF
  have HV := Lib.hid hv
  have hmf2 := hmf2
  have hmm := @run_makeMap Try.prog
  have hws : (Lit.int .i64 ((sn : Nat) : Int)).wf = true := WalkArith.wf_i64 (by omega)
  have hwm : (Lit.int .i64 (-1)).wf = true := by decide
  have hks : keyOf Try.prog 2 (.int .i64 ((sn : Nat) : Int)) = some (.int .i64 ((sn : Nat) : Int)) := keyOf_int_mk Try.underlying2 hws
  clear hA lf hF hv
  go_enter Try.func61, Try.ntmps61
  go_wp2_with (refine wpList_insert_own (H := Unit) _ rfl _ _ _ 90 rfl 2 2 lawI Try.underlying90 _ (w.heap.size + 3) 0 (.map []) rfl (own_made_at (by simp)) (by unfold maxLen; omega) _ _ _ rfl rfl hks _ [] (plainElem_int Try.underlying2 hwm) ?_; intro w1 hm1 hg1)
  have Z1 := Lib.hid (show w.heap.size + 4 ≤ w1.heap.size from by have h := hg1.size; first | (simp at h; omega) | (simp [World.alloc] at h; omega))
  have HR0 := Lib.hid (show RS (w1.alloc (.cells #[.map (some (w.heap.size + 3))] 90)) (w.heap.size + 1) (w.heap.size + 2) w1.heap.size (w.heap.size + 3) (w.heap.size + 1) 1 [((sn : Nat) : Int)] from by
    have z1 := Z1.out
    have gb : ∀ (j : Nat) (o : Obj), j ≠ (w.heap.size + 3) → ((((w.alloc (.cells #[.int .i64 (jn : Int), .slice A n k0] 55)).alloc (.cells #[.int .i64 ((sn : Nat) : Int)] 2)).alloc (.cells #[.slice (some ⟨w.heap.size + 1, 0, none⟩) 1 1] 22)).alloc (.map #[] 0)).heap[j]? = some o → w1.heap[j]? = some o := fun j o hj ho => (hg1.block j (Array.getElem?_eq_some_iff.1 ho).1 (fun e => hj (Option.some.inj e))).trans ho
    have h1 := gb (w.heap.size + 1) _ (by omega) (blk_old (blk_old (blk_new (by simp))))
    have h2 := gb (w.heap.size + 2) _ (by omega) (blk_old (blk_new (by simp)))
    refine ⟨blk_old h2, ⟨by simp [ints], .inr ⟨w.heap.size + 1, 1, _, rfl, Nat.le_refl _, blk_old h1, Nat.le_refl _, by unfold maxLen; omega, rfl, rfl⟩⟩, blk_new rfl, ⟨_, hm1.alloc _, isMap_empty.put _ _, fun x hx => ?_⟩, by omega, by omega⟩
    by_cases e : x = ((sn : Nat) : Int)
    · subst e
      rw [has_put_same (k := .int .i64 _) isMap_empty trivial]
      simp [hasB]
    · rw [has_put_other (fun e' => e (by cases e'; rfl))]
      simp [hasB, e, has_eq])
  have NB0 := Lib.hid (show (w1.alloc (.cells #[.map (some (w.heap.size + 3))] 90)).heap[w.heap.size]? = some (.cells #[.int .i64 (jn : Int), .slice A n k0] 55 (0, 0)) from by
    refine blk_old ((hg1.block w.heap.size (by simp; omega) (fun e => by have := Option.some.inj e; omega)).trans ?_)
    exact blk_old (blk_old (blk_old (blk_new rfl))))
  have BL0 := Lib.hid (show Below w.heap.size w (w1.alloc (.cells #[.map (some (w.heap.size + 3))] 90)) from by
    have z1 := Z1.out
    have b : Below w.heap.size w ((((w.alloc (.cells #[.int .i64 (jn : Int), .slice A n k0] 55)).alloc (.cells #[.int .i64 ((sn : Nat) : Int)] 2)).alloc (.cells #[.slice (some ⟨w.heap.size + 1, 0, none⟩) 1 1] 22)).alloc (.map #[] 0)) := by repeat (first | exact Below.refl _ _ | assumption | apply bl_alloc | apply bl_drewN | apply Below.drew | (refine bl_set ?_ (by first | exact Nat.le_refl _ | (simp; done) | (simp; omega)) _) | (refine bl_trans ?_ (by assumption)))
    have b1 : Below w.heap.size w w1 := ⟨hg1.os, hg1.tape, hg1.output, by omega, fun j hj => (hg1.block j (by simp; omega) (fun e => by have := Option.some.inj e; omega)).trans (b.block j hj)⟩
    exact bl_alloc b1 _)
  have BF0 := Lib.hid (Bfs.start (J := (jn : Int)) (n := n) (fl := fl) (s := ((sn : Nat) : Int)) (by omega))
  have zz := Z1.out
  clear hm1 hg1 hmm
  go_loopg [11] 10 (fun m v wr => ∃ i g c L, m = 10 - i ∧ v = .int .i64 (i : Int) ∧ RS wr (w.heap.size + 1) (w.heap.size + 2) w1.heap.size (w.heap.size + 3) g c L ∧ wr.heap[w.heap.size]? = some (.cells #[.int .i64 (jn : Int), .slice A n k0] 55 (0, 0)) ∧ Bfs (jn : Int) n fl ((sn : Nat) : Int) L i 0 ∧ Below w.heap.size w wr)
  case atStart => exact ⟨0, w.heap.size + 1, 1, [((sn : Nat) : Int)], rfl, rfl, HR0.out, NB0.out, BF0.out, BL0.out⟩
  case round =>
    clear HR0 NB0 BL0 BF0
    obtain ⟨i, g, c, L, hgk, rfl, hst, hnb, hbf, hb⟩ := hrel
    have HGK := Lib.hid hgk
    have hlen := hbf.len (by omega : (jn : Int) ≤ 10)
    obtain ⟨l0, ll⟩ := row_one hst.lbx
    obtain ⟨n0, n1, nl⟩ := row_two hnb
    clear hgk
    by_cases hil : i < L.length
    · have HI := Lib.hid (show 10 - (i + 1) < gk from by rw [HGK.out]; omega)
      have H0 := Lib.hid (And.intro hst (And.intro hnb (And.intro hbf hb)))
      clear hst hnb hbf hb
      go_wp2
      go_loopg [29] n (fun m v wr => ∃ k g c L, k ≤ n ∧ m = n - k ∧ v = .int .i64 (k : Int) ∧ RS wr (w.heap.size + 1) (w.heap.size + 2) w1.heap.size (w.heap.size + 3) g c L ∧ wr.heap[w.heap.size]? = some (.cells #[.int .i64 (jn : Int), .slice A n k0] 55 (0, 0)) ∧ Bfs (jn : Int) n fl ((sn : Nat) : Int) L i k ∧ i < L.length ∧ Below w.heap.size w wr)
      case atStart => exact ⟨0, g, c, L, Nat.zero_le _, rfl, rfl, H0.out.1, H0.out.2.1, H0.out.2.2.1, hil, H0.out.2.2.2⟩
      case round =>
        clear H0 l0 ll n0 n1 nl hil hlen
        obtain ⟨k, g, c, L, hk, hgk, rfl, hst, hnb, hbf, hil, hb⟩ := hrel
        have HGI := Lib.hid hgk
        have HB := Lib.hid hb
        have HNB := Lib.hid hnb
        have HST := Lib.hid hst
        have HBF := Lib.hid hbf
        have hlen := hbf.len (by omega : (jn : Int) ≤ 10)
        have zb := hb.size
        have lq1 := blk_lt hst.lbx
        have lq2 : (w.heap.size + 3) < wr.heap.size := by
          obtain ⟨_, d1, _⟩ := hst.map
          exact d1.lt
        clear hgk
        by_cases hlt : k < n
        · obtain ⟨b, off, rfl, hbl, hcell⟩ := HA.out (by rw [ints_len, HL.out]; omega)
          obtain ⟨d0, d1, d2⟩ := dit_cells hbl hcell HL.out hlt hb
          clear hcell
          have hv := HV.out k hlt
          obtain ⟨f0, hf0⟩ : ∃ f0 : Nat, dF fl k = (f0 : Int) := ⟨(dF fl k).toNat, by omega⟩
          obtain ⟨t0, ht0⟩ : ∃ t0 : Nat, dT fl k = (t0 : Int) := ⟨(dT fl k).toNat, by omega⟩
          obtain ⟨w0, hw0⟩ : ∃ w0 : Int, dW fl k = w0 := ⟨_, rfl⟩
          have HF0 := Lib.hid hf0
          have HT0 := Lib.hid ht0
          have HW0 := Lib.hid hw0
          rw [hf0] at d0 hv
          rw [ht0] at d1 hv
          rw [hw0] at d2 hv
          have htj : t0 < jn := by omega
          have hwb : 0 ≤ w0 ∧ w0 ≤ 1000 := hv.2.2.2
          have fz : wr.cell? ⟨bF, k, none⟩ = some (.int .i64 0) := (hb.cell (p := ⟨bF, k, none⟩) hbF).trans (HF.out k hlt)
          have kn0 : (0 : Int) ≤ (k : Int) := by omega
          have kn1 : (k : Int) < (n : Int) := by omega
          have ki0 : (0 : Int) ≤ (i : Int) := by omega
          have ki1 : (i : Int) < ((List.length L : Nat) : Int) := by omega
          clear hf0 ht0 hw0 hv hbf hst hnb hb
          go_upto_region 10 with fail
          obtain ⟨wv, hwv⟩ : ∃ wv, wv = wr.alloc (.cells #[.int .i64 ((f0 : Nat) : Int), .int .i64 ((t0 : Nat) : Int), .int .i64 w0] 101) := ⟨_, rfl⟩
          have hbv : Below wr.heap.size wr wv := by rw [hwv]; exact bl_alloc (Below.refl _ _) _
          have KD := Lib.hid (show wv.heap[wr.heap.size]? = some (.cells #[.int .i64 ((f0 : Nat) : Int), .int .i64 ((t0 : Nat) : Int), .int .i64 w0] 101 (0, 0)) from by rw [hwv]; exact heap_alloc_new _ _)
          rw [← hwv]
          clear hwv
          have hst := HST.out.below hbv
          have hnb := keep_blk (hb := hbv) (h := HNB.out)
          have hb := bl_trans HB.out hbv
          have hd9 := blk_lt KD.out
          have fz := cell_b hbv fz
          obtain ⟨e0, e1, e2, el⟩ := row_three KD.out
          obtain ⟨l0, ll⟩ := row_one hst.lbx
          have li : wv.cell? ⟨g, i, none⟩ = some (.int .i64 (gt L i)) := by rw [hst.own.cellAt i (by omega), ints_get _ _ hil]
          have HST1 := Lib.hid hst
          clear hst d0 d1 d2
          go_cut [49] (fun s49 wx => s49 = .bool (decide (((f0 : Nat) : Int) = gt L i) && decide (0 < w0)) ∧ ∃ d, wx = wv.drewN d)
          case first =>
            by_cases m1 : ((f0 : Nat) : Int) = gt L i
            · have m1' : (((f0 : Nat) : Int) == gt L i) = true := by simpa using m1
              by_cases w1 : 0 < w0
              · have HBV := Lib.hid (show (decide (((f0 : Nat) : Int) = gt L i) && decide (0 < w0)) = true by simp [m1, w1])
                clear m1
                go_quiet (fail)
                go_wp2_with fail
                go_meet
                exact ⟨by rw [HBV.out], _, rfl⟩
              · have HBV := Lib.hid (show (decide (((f0 : Nat) : Int) = gt L i) && decide (0 < w0)) = false by simp [w1])
                clear m1
                go_quiet (fail)
                go_wp2_with fail
                go_meet
                exact ⟨by rw [HBV.out], _, rfl⟩
            · have m1' : (((f0 : Nat) : Int) == gt L i) = false := by simpa using m1
              have HBV := Lib.hid (show (decide (((f0 : Nat) : Int) = gt L i) && decide (0 < w0)) = false by simp [m1])
              clear m1
              go_quiet (fail)
              go_wp2_with fail
              go_meet
              exact ⟨by rw [HBV.out], _, rfl⟩
          case rest =>
            obtain ⟨rfl, dd, hwc⟩ := hcut
            have hbd : Below wv.heap.size wv wc := by rw [hwc]; exact bl_drewN (Below.refl _ _) _
            clear hwc e0 e1 e2 el l0 ll li
            have hst := HST1.out.below hbd
            have hnb := keep_blk (hb := hbd) (h := hnb)
            have kd := keep_blk (hb := hbd) (h := KD.out)
            have hb := bl_trans hb hbd
            have fz := cell_b hbd fz
            have zc := hbd.size
            clear hbd HST1 KD
            obtain ⟨e0, e1, e2, el⟩ := row_three kd
            have kw := blk_lt kd
            cases hbq : (decide (((f0 : Nat) : Int) = gt L i) && decide (0 < w0))
            · have HBF2 := Lib.hid (HBF.out.skip (fun h1 h2 => by
                rw [HW0.out] at h1
                rw [HF0.out] at h2
                simp [h1, h2] at hbq))
              obtain ⟨l0, ll⟩ := row_one hst.lbx
              have li : wc.cell? ⟨g, i, none⟩ = some (.int .i64 (gt L i)) := by rw [hst.own.cellAt i (by omega), ints_get _ _ hil]
              have HSX := Lib.hid hst
              clear hbq hst
              go_upto_region 12 with fail
              by_cases e2 : ((t0 : Nat) : Int) = gt L i
              · have e2' : (((t0 : Nat) : Int) == gt L i) = true := by simpa using e2
                clear e2
                go_quiet (fail)
                go_wp2
                go_roundg (n - (k + 1))
                case measure => rw [HGI.out]; omega
                case rel => exact ⟨k + 1, g, c, L, by omega, rfl, by go_num, HSX.out.below (bl_drewN (Below.refl _ _) _), blk_drewN hnb, HBF2.out, by omega, bl_drewN hb _⟩
              · have e2' : (((t0 : Nat) : Int) == gt L i) = false := by simpa using e2
                clear e2
                go_quiet (fail)
                go_wp2
                go_roundg (n - (k + 1))
                case measure => rw [HGI.out]; omega
                case rel => exact ⟨k + 1, g, c, L, by omega, rfl, by go_num, HSX.out.below (bl_drewN (Below.refl _ _) _), blk_drewN hnb, HBF2.out, by omega, bl_drewN hb _⟩
            · have hh : ((f0 : Nat) : Int) = gt L i ∧ 0 < w0 := by simpa using hbq
              have HBF2 := Lib.hid (show Bfs (jn : Int) n fl ((sn : Nat) : Int) (addL L ((t0 : Nat) : Int)) i (k + 1) from by
                cases hm : hasB L ((t0 : Nat) : Int)
                · rw [addL_no hm, ← HT0.out]
                  exact HBF.out.add hil hlt (by rw [HW0.out]; exact hh.2) (by rw [HF0.out]; exact hh.1) (by rw [HT0.out]; omega) (by rw [HT0.out]; simpa [hasB] using hm)
                · rw [addL_yes hm]
                  exact HBF.out.skip (fun _ _ => by rw [HT0.out]; simpa [hasB] using hm))
              clear hbq hh
              go_wp2_with fail
              refine (add_any _ (w.heap.size + 1) (w.heap.size + 2) w1.heap.size (w.heap.size + 3) g c L ((t0 : Nat) : Int) (k : Int) hst (by omega) (by omega) (by omega) (by omega)).mono ?_
              rintro e w5 ⟨g5, c5, rfl, hst5, hkp5, hb5⟩
              have hgl := hst.own.lt g rfl
              have hnb5 := hkp5 _ _ (by omega) (by omega) (by omega) hnb
              have kd5 := hkp5 _ _ (by omega) (by omega) (by have := HST.out.own.lt g rfl; omega) kd
              have fz5 : w5.cell? ⟨bF, k, none⟩ = some (.int .i64 0) := (hb5.cell (p := ⟨bF, k, none⟩) (by simp; omega)).trans fz
              have hbw : Below w.heap.size w w5 := hb.trans (hb5.mono (by omega))
              have hL5 : L.length ≤ (addL L ((t0 : Nat) : Int)).length := by unfold addL; split <;> simp
              obtain ⟨L5, hL5e⟩ : ∃ L5, L5 = addL L ((t0 : Nat) : Int) := ⟨_, rfl⟩
              rw [← hL5e] at HBF2 hst5 hL5
              have hil5 : i < L5.length := by omega
              have hlen5 := HBF2.out.len (by omega : (jn : Int) ≤ 10)
              clear hst hnb kd fz e0 e1 e2 el hkp5 hb5 hb hL5e ki1
              have ki1 : (i : Int) < ((List.length L5 : Nat) : Int) := by omega
              obtain ⟨e0, e1, e2, el⟩ := row_three kd5
              obtain ⟨l0, ll⟩ := row_one hst5.lbx
              have li : w5.cell? ⟨g5, i, none⟩ = some (.int .i64 (gt L5 i)) := by rw [hst5.own.cellAt i (by omega), ints_get _ _ hil5]
              have HSX := Lib.hid hst5
              clear hst5
              go_upto_region 12 with fail
              by_cases e2 : ((t0 : Nat) : Int) = gt L5 i
              · have e2' : (((t0 : Nat) : Int) == gt L5 i) = true := by simpa using e2
                clear e2
                go_quiet (fail)
                go_wp2
                go_roundg (n - (k + 1))
                case measure => rw [HGI.out]; omega
                case rel => exact ⟨k + 1, g5, c5, L5, by omega, rfl, by go_num, HSX.out.below (bl_drewN (Below.refl _ _) _), blk_drewN hnb5, HBF2.out, by omega, bl_drewN hbw _⟩
              · have e2' : (((t0 : Nat) : Int) == gt L5 i) = false := by simpa using e2
                clear e2
                go_quiet (fail)
                go_wp2
                go_roundg (n - (k + 1))
                case measure => rw [HGI.out]; omega
                case rel => exact ⟨k + 1, g5, c5, L5, by omega, rfl, by go_num, HSX.out.below (bl_drewN (Below.refl _ _) _), blk_drewN hnb5, HBF2.out, by omega, bl_drewN hbw _⟩
        · obtain rfl : k = n := by omega
          have HBF2 := Lib.hid (hbf.next hil)
          go_wp2
          go_roundg (10 - (i + 1))
          case measure => rw [HGK.out]; omega
          case rel => exact ⟨i + 1, g, c, L, rfl, by go_num, hst, hnb, HBF2.out, hb⟩
    · have hie : i = L.length := by have := hbf.il; omega
      subst hie
      have HX := Lib.hid (show inL L = rchB n fl ((sn : Nat) : Int) from hbf.fin)
      obtain ⟨oX, cX, hvx, hoX⟩ := own_endB hst.own
      cases hvx
      obtain ⟨m0, ml⟩ := row_one hst.mbx
      have HO := Lib.hid hoX
      have HB := Lib.hid hb
      have zb := hb.size
      clear hst hbf hoX hb
      go_wp2
      go_region_held3 (fun w' => w'.cell? ⟨w.heap.size, 0, none⟩ = some (.int .i64 (jn : Int)) ∧ w'.cell? ⟨w1.heap.size, 0, none⟩ = some (.map (some (w.heap.size + 3)))) (((try dsimp only); refine ⟨?_, ?_⟩ <;> (repeat (first | with_reducible assumption | with_reducible refine kc_drew ?_ | with_reducible refine kc_drewN ?_ | with_reducible refine kc_alloc ?_ | with_reducible refine kc_set ?_ (by first | omega | (simp; done) | (simp; omega)))))) (first | (go_at_call 79; have IR := idxReach wr.drew (w.heap.size + 2) (some ⟨g, 0, none⟩) c jn L (kc_drew l0) (HO.out.rc.below (show Below wr.heap.size wr wr.drew from (Below.refl _ _).drew)) (by omega) (by omega); rw [HX.out] at IR; refine IR.mono ?_; rintro e w6 ⟨A6, c6, rfl, o6, hb6⟩; have t6 : Below wr.heap.size wr w6 := (by repeat (first | exact Below.refl _ _ | assumption | apply bl_alloc | apply bl_drewN | apply Below.drew | (refine bl_set ?_ (by first | exact Nat.le_refl _ | (simp; done) | (simp; omega)) _) | (refine bl_trans ?_ (by assumption)))); have n6 := cell_b t6 n0; have m6 := cell_b t6 m0) | fail)
      all_goals
        go_wp2
        go_ret2
        exact ⟨_, _, _, rfl, o6.wide (show w.heap.size ≤ wr.drew.heap.size from HB.out.size) (Nat.le_refl _), bl_trans HB.out t6⟩
set_option maxRecDepth 100000 in
set_option maxHeartbeats 3200000 in
theorem implReached (w : World) (J s : Int) (A : Option Addr) (n k : Nat) (fl : List Int) (hA : RC w A (ints fl)) (lf : fl.length = n * 3) (hm : n ≤ 1048576) :
    Calls Try.prog 27 #[.agg #[.int .i64 J, .slice A n k], .int .i64 s] w (NewIntsC (reL J n fl s) (reC J n fl s) w) := by
  have HA := Lib.hid hA
  have HL := Lib.hid lf
  clear hA lf
  cases k1 : netOk J n fl
  · have H := Lib.hid (re_1 (s := s) k1)
    go_enter Try.func27, Try.ntmps27
    go_wp2_with (go_at_call 59; refine (implValidNet _ _ _ _ _ _ (HA.out.below (by repeat (first | exact Below.refl _ _ | assumption | apply bl_alloc | apply bl_drewN | apply Below.drew | (refine bl_set ?_ (by first | exact Nat.le_refl _ | (simp; done) | (simp; omega)) _) | (refine bl_trans ?_ (by assumption))))) HL.out hm).mono ?_; rintro e w1 ⟨rfl, hb1⟩; have kx : w1.heap[w.heap.size]? = some (.cells #[.int .i64 J, .slice A n k] 55 (0, 0)) := keep_blk (hb := hb1) (h := by first | exact kx | exact heap_alloc_new _ _); obtain ⟨x0, x1, xl⟩ := row_two kx)
    go_ret2
    rw [H.out.1, H.out.2]
    exact newC_nil _ _ _ _ (by repeat (first | exact Below.refl _ _ | assumption | apply bl_alloc | apply bl_drewN | apply Below.drew | (refine bl_set ?_ (by first | exact Nat.le_refl _ | (simp; done) | (simp; omega)) _) | (refine bl_trans ?_ (by assumption))))
  · have N := Lib.hid (netOk_of k1)
    obtain ⟨jn, rfl⟩ : ∃ jn : Nat, J = (jn : Int) := ⟨J.toNat, by have := N.out.1; omega⟩
    have JR := Lib.hid N.out.1
    have jl : 2 ≤ jn := by have := JR.out; omega
    have jh : jn ≤ 10 := by have := JR.out; omega
    cases k2 : inR s 1 ((jn : Int) - 1)
    · have H := Lib.hid (re_2 k1 k2)
      go_enter Try.func27, Try.ntmps27
      go_wp2_with (first | (go_at_call 59; refine (implValidNet _ _ _ _ _ _ (HA.out.below (by repeat (first | exact Below.refl _ _ | assumption | apply bl_alloc | apply bl_drewN | apply Below.drew | (refine bl_set ?_ (by first | exact Nat.le_refl _ | (simp; done) | (simp; omega)) _) | (refine bl_trans ?_ (by assumption))))) HL.out hm).mono ?_; rintro e w1 ⟨rfl, hb1⟩; have kx : w1.heap[w.heap.size]? = some (.cells #[.int .i64 (jn : Int), .slice A n k] 55 (0, 0)) := keep_blk (hb := hb1) (h := by first | exact kx | exact heap_alloc_new _ _); obtain ⟨x0, x1, xl⟩ := row_two kx) | (go_at_call 60; refine (implInner _ _ _ _ _ _ JR.out).mono ?_; rintro e w2 ⟨rfl, hb2⟩; have kx : w2.heap[w.heap.size]? = some (.cells #[.int .i64 (jn : Int), .slice A n k] 55 (0, 0)) := keep_blk (hb := hb2) (h := by first | exact kx | exact heap_alloc_new _ _); obtain ⟨x0, x1, xl⟩ := row_two kx))
      go_ret2
      rw [H.out.1, H.out.2]
      exact newC_nil _ _ _ _ (by repeat (first | exact Below.refl _ _ | assumption | apply bl_alloc | apply bl_drewN | apply Below.drew | (refine bl_set ?_ (by first | exact Nat.le_refl _ | (simp; done) | (simp; omega)) _) | (refine bl_trans ?_ (by assumption))))
    · have SR := inR_of k2
      obtain ⟨sn, rfl⟩ : ∃ sn : Nat, s = (sn : Int) := ⟨s.toNat, by omega⟩
      have sl : 1 ≤ sn := by omega
      have sh : sn < jn := by omega
      have H := Lib.hid (re_3 k1 k2)
      have hm6 := fun W => make_i6 n (by have := N.out.2.1; omega) W
      go_enter Try.func27, Try.ntmps27
      go_wp2_with (first | (go_at_call 59; refine (implValidNet _ _ _ _ _ _ (HA.out.below (by repeat (first | exact Below.refl _ _ | assumption | apply bl_alloc | apply bl_drewN | apply Below.drew | (refine bl_set ?_ (by first | exact Nat.le_refl _ | (simp; done) | (simp; omega)) _) | (refine bl_trans ?_ (by assumption))))) HL.out hm).mono ?_; rintro e w1 ⟨rfl, hb1⟩; have kx : w1.heap[w.heap.size]? = some (.cells #[.int .i64 (jn : Int), .slice A n k] 55 (0, 0)) := keep_blk (hb := hb1) (h := by first | exact kx | exact heap_alloc_new _ _); obtain ⟨x0, x1, xl⟩ := row_two kx) | (go_at_call 60; refine (implInner _ _ _ _ _ _ JR.out).mono ?_; rintro e w2 ⟨rfl, hb2⟩; have kx : w2.heap[w.heap.size]? = some (.cells #[.int .i64 (jn : Int), .slice A n k] 55 (0, 0)) := keep_blk (hb := hb2) (h := by first | exact kx | exact heap_alloc_new _ _); obtain ⟨x0, x1, xl⟩ := row_two kx))
      go_region_held3 (fun w' => w'.cell? ⟨w.heap.size, 0, none⟩ = some (.int .i64 (jn : Int)) ∧ w'.cell? ⟨w.heap.size, 1, none⟩ = some (.slice A n k)) (((try dsimp only); refine ⟨?_, ?_⟩ <;> (repeat (first | with_reducible assumption | with_reducible refine kc_drew ?_ | with_reducible refine kc_drewN ?_ | with_reducible refine kc_alloc ?_ | with_reducible refine kc_set ?_ (by first | omega | (simp; done) | (simp; omega)))))) (first | (go_at_call 61; refine (reached_any _ jn sn A n k w2.heap.size fl (HA.out.below (by repeat (first | exact Below.refl _ _ | assumption | apply bl_alloc | apply bl_drewN | apply Below.drew | (refine bl_set ?_ (by first | exact Nat.le_refl _ | (simp; done) | (simp; omega)) _) | (refine bl_trans ?_ (by assumption))))) HL.out N.out.2.1 ⟨jl, jh⟩ ⟨sl, sh⟩ (fun i hi => (cell_of_row _ _ i _ _ _ (by first | exact heap_alloc_new w2 _ | exact blk_drew (heap_alloc_new w2 _))).trans (made_get n i hi)) (by first | (simp; done) | (simp [World.drew]; done)) N.out.2.2).mono ?_; rintro e w3 ⟨A3, c3, r3, rfl, o3, hb3⟩; have t3 : Below w2.heap.size w2 w3 := (by repeat (first | exact Below.refl _ _ | assumption | apply bl_alloc | apply bl_drewN | apply Below.drew | (refine bl_set ?_ (by first | exact Nat.le_refl _ | (simp; done) | (simp; omega)) _) | (refine bl_trans ?_ (by assumption)))); have y0 := cell_b t3 x0; have y1 := cell_b t3 x1; have t9 : Below w.heap.size w w3 := (by repeat (first | exact Below.refl _ _ | assumption | apply bl_alloc | apply bl_drewN | apply Below.drew | (refine bl_set ?_ (by first | exact Nat.le_refl _ | (simp; done) | (simp; omega)) _) | (refine bl_trans ?_ (by assumption))))) | fail)
      all_goals
        go_wp2
        go_ret2
        rw [H.out.1, H.out.2, show ((jn : Int)).toNat = jn from Int.toNat_natCast jn]
        exact ⟨_, _, rfl, o3.wide (by have := hb2.size; have := hb1.size; first | omega | (simp at *; omega)) (Nat.le_refl _), t9⟩
end Go.Proofs.Ytcgnnlgakfndaaa
