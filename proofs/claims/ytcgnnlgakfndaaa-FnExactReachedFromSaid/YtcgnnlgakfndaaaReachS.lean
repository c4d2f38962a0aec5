/-
  Contracts: what can be reached along ditches, the reference. They hold for every net of at most 1048576 ditches.
-/
import Derived.IntWalk
import Derived.Test.YtcgnnlgakfndaaaReachPlain
import Derived.Test.YtcgnnlgakfndaaaLead2
import Derived.Test.YtcgnnlgakfndaaaCut
import Derived.Deep.RegionHeld3
import Derived.Deep.DeepCutAuto
namespace Go.Proofs.Ytcgnnlgakfndaaa
set_option linter.unusedVariables false
set_option linter.unusedSimpArgs false
open Go.RowKit

def bls (sb : List Bool) : List Value := sb.map Value.bool
theorem bls_len (sb : List Bool) : (bls sb).length = sb.length := by simp [bls]
theorem bls_get (sb : List Bool) (i : Nat) (h : i < sb.length) : (bls sb).toArray[i]? = some (.bool (mkd sb i)) := by simp [bls, mkd, List.getD_eq_getElem?_getD, List.getElem?_eq_getElem h]
theorem bls_set (sb : List Bool) (i : Nat) (b : Bool) : (bls sb).toArray.setIfInBounds i (.bool b) = (bls (sb.set i b)).toArray := by simp [bls]
theorem infoBool : (Try.prog.info? 4).map (fun i => (i.zero, i.size, i.bytes)) = some (some (.bool false), 1, 1) := by kernel_rfl
theorem infoI : (Try.prog.info? 3).map (fun i => (i.zero, i.size, i.bytes)) = some (some (.int .i64 0), 1, 8) := by kernel_rfl
theorem infoI6 : (Try.prog.info? 2).map (fun i => (i.zero, i.size, i.bytes)) = some (some (.int .i64 0), 1, 8) := by kernel_rfl
theorem made_bools (n : Nat) : madeCells #[Value.bool false] n = (bls (List.replicate n false)).toArray := by
  refine Array.ext (by simp [madeCells, bls]) fun i h1 h2 => ?_
  simp [madeCells, bls, Nat.mod_one]
theorem make_bools (n : Nat) (hn : n ≤ 1048576) (W : World) : (Instr.makeSlice 82 (.int .i64 (n : Int)) (.int .i64 (n : Int))).run Try.prog W =
    .ok (.slice (some ⟨W.heap.size, 0, none⟩) n n) (W.alloc (.cells (bls (List.replicate n false)).toArray 4)) := by
  obtain ⟨i0, hi, hz0, hz1, hz2⟩ := info_parts infoBool
  have h := run_make_full_row (P := Try.prog) 82 4 i0 (.bool false) Try.underlying82 hi hz0 n (by rw [hz2]; omega) (by omega) W
  rw [← made_bools]
  simpa [hz1, Value.cells] using h
theorem make_ints (n : Nat) (hn : n ≤ 1048576) (W : World) : (Instr.makeSlice 83 (.int .i64 (n : Int)) (.int .i64 (n : Int))).run Try.prog W =
    .ok (.slice (some ⟨W.heap.size, 0, none⟩) n n) (W.alloc (.cells (madeCells #[.int .i64 0] n) 3)) := by
  obtain ⟨i0, hi, hz0, hz1, hz2⟩ := info_parts infoI
  have h := run_make_full_row (P := Try.prog) 83 3 i0 (.int .i64 0) Try.underlying83 hi hz0 n (by rw [hz2]; omega) (by omega) W
  simpa [hz1, Value.cells] using h
theorem make_i6 (n : Nat) (hn : n ≤ 1048576) (W : World) : (Instr.makeSlice 22 (.int .i64 (n : Int)) (.int .i64 (n : Int))).run Try.prog W =
    .ok (.slice (some ⟨W.heap.size, 0, none⟩) n n) (W.alloc (.cells (madeCells #[.int .i64 0] n) 2)) := by
  obtain ⟨i0, hi, hz0, hz1, hz2⟩ := info_parts infoI6
  have h := run_make_full_row (P := Try.prog) 22 2 i0 (.int .i64 0) Try.underlying22 hi hz0 n (by rw [hz2]; omega) (by omega) W
  simpa [hz1, Value.cells] using h
theorem made_get (n i : Nat) (h : i < n) : (madeCells #[Value.int .i64 0] n)[i]? = some (.int .i64 0) := by simp [madeCells, h, Nat.mod_one]
theorem made_size (n : Nat) : (madeCells #[Value.int .i64 0] n).size = n := by simp [madeCells]
set_option maxHeartbeats 800000 in
theorem l04List_any (w : World) (g N : Nat) (sb : List Bool) (hg : w.heap[g]? = some (.cells (bls sb).toArray 4 (0, 0))) (hN : sb.length = N) (hm : N ≤ 1048576) :
    Calls Try.prog 56 #[.slice (some ⟨g, 0, none⟩) N N] w (NewInts (idxTo (mkd sb) N) w) := by
  have HG := Lib.hid hg
  have HN := Lib.hid hN
  clear hg hN
  obtain ⟨i0, hi, hz0, hz1, hz2⟩ := info_parts infoInt
  go_enter Try.func56, Try.ntmps56
  go_wp2
  go_loopg [3, 4] N (fun m v i wr => AppRel 2 (idxTo (mkd sb)) N w m i v wr)
  case atStart => exact ⟨0, Nat.zero_le _, by omega, rfl, own_lit _ (Below.refl _ _), bl_alloc (Below.refl _ _) _⟩
  case round =>
    obtain ⟨k, hk, hgk, rfl, hown, hb⟩ := hrel
    have HGK := Lib.hid hgk
    clear hgk
    have hlen := idxTo_len (mkd sb) k
    by_cases hlt : k < N
    · have hc : wr.cell? ⟨g, k, none⟩ = some (.bool (mkd sb k)) := by
        rw [cell_of_row wr g k _ _ _ (keep_blk (hb := hb) (h := HG.out)), bls_get _ _ (by rw [HN.out]; exact hlt)]
      cases hq : mkd sb k
      · rw [hq] at hc
        have HS := Lib.hid (idxTo_no hq)
        clear hq
        go_wp2
        go_roundg (N - (k + 1))
        case measure => rw [HGK.out]; omega
        case rel => exact ⟨k + 1, by omega, rfl, by go_num, by rw [HS.out]; exact hown, hb⟩
      · rw [hq] at hc
        have HS := Lib.hid (idxTo_yes hq)
        clear hq
        go_wp2_with (at_builtin; refine wpList_append_own _ rfl _ _ 22 rfl w.heap.size 2 i0 (.int .i64 0) 1 8 Try.underlying22 hi hz0 hz1 hz2 rfl (by decide) _ _ _ rfl (hown.alloc _) ⟨wr.heap.size, 0, none⟩ 1 1 [.int .i64 (k : Int)] rfl rfl (by first | exact app_news (heap_alloc_new _ _) | exact app_news (heap_alloc_new wr _)) (app_one _) (by have := hlen; unfold maxLen; omega) (by have := hlen; omega) (by have := hb.size; simp; omega) ?_; intro v' w1 hown' hgrow _)
        have R1 := Lib.hid (app_own hown' HS.out)
        have R2 := Lib.hid (app_below (bl_alloc hb _) (hown.alloc _) hgrow)
        go_roundg (N - (k + 1))
        case measure => rw [HGK.out]; omega
        case rel => exact ⟨k + 1, by omega, rfl, by go_num, R1.out, R2.out⟩
    · obtain rfl : k = N := by omega
      go_wp2
      go_ret
      exact new_end hown hb
/-- what the walk leaves -/
def Walked (n : Nat) (fl : List Int) (s : Int) (jn : Nat) (w : World) (e : Ending) (w' : World) : Prop :=
  ∃ (q g gb : Nat) (sb : List Bool), e = .returned (.pointer (some ⟨q, 0, none⟩)) ∧ w'.heap[q]? = some (.cells #[.slice (some ⟨g, 0, none⟩) jn jn, .slice (some ⟨gb, 0, none⟩) jn jn] 85 (0, 0)) ∧ w'.heap[g]? = some (.cells (bls sb).toArray 4 (0, 0)) ∧ sb.length = jn ∧ (∀ j, j < jn → mkd sb j = rchB n fl s j) ∧ Below w.heap.size w w'
set_option maxRecDepth 100000 in
set_option maxHeartbeats 12800000 in
theorem l04Walk_any (w : World) (p jn sn : Nat) (A : Option Addr) (n k0 bF : Nat) (fl : List Int) (hp0 : w.cell? ⟨p, 0, none⟩ = some (.int .i64 (jn : Int))) (hp1 : w.cell? ⟨p, 1, none⟩ = some (.slice A n k0)) (hpl : p < w.heap.size)
    (hA : RC w A (ints fl)) (lf : fl.length = n * 3) (hn : n ≤ 20) (hj : 2 ≤ jn ∧ jn ≤ 10) (hs : 1 ≤ sn ∧ sn < jn) (hF : ∀ i, i < n → w.cell? ⟨bF, i, none⟩ = some (.int .i64 0)) (hbF : bF < w.heap.size)
    (hv : ∀ i, i < n → ((0 ≤ dF fl i ∧ dF fl i ≤ (jn : Int) - 1) ∧ (0 ≤ dT fl i ∧ dT fl i ≤ (jn : Int) - 1) ∧ dF fl i ≠ dT fl i ∧ (0 ≤ dW fl i ∧ dW fl i ≤ 1000))) :
    Calls Try.prog 57 #[.pointer (some ⟨p, 0, none⟩), .slice (some ⟨bF, 0, none⟩) n n, .int .i64 ((sn : Nat) : Int)] w (Walked n fl ((sn : Nat) : Int) jn w) := by
  have HA := Lib.hid hA
  have HL := Lib.hid lf
  have HF := Lib.hid hF
  have HV := Lib.hid hv
  have HP := Lib.hid (And.intro hp0 hp1)
  have hmb := fun W => make_bools jn (by omega) W
  have hmi := fun W => make_ints jn (by omega) W
  have hsn1 : (0 : Int) ≤ (sn : Int) := by omega
  have hsn2 : (sn : Int) < (jn : Int) := by omega
  clear hA lf hF hv
  go_enter Try.func57, Try.ntmps57
  go_upto_region 1 with fail
  go_cut [7] (fun s7 wx => ∃ (q g gb : Nat) (cb : Array Value), s7 = .pointer (some ⟨q, 0, none⟩) ∧ wx.heap[q]? = some (.cells #[.slice (some ⟨g, 0, none⟩) jn jn, .slice (some ⟨gb, 0, none⟩) jn jn] 85 (0, 0)) ∧ wx.heap[g]? = some (.cells (bls (List.replicate jn false)).toArray 4 (0, 0)) ∧ wx.heap[gb]? = some (.cells cb 3 (0, 0)) ∧ cb.size = jn ∧ (q ≠ g ∧ q ≠ gb ∧ g ≠ gb) ∧ (w.heap.size ≤ g ∧ w.heap.size ≤ gb ∧ w.heap.size ≤ q) ∧ Below w.heap.size w wx)
  case first =>
    have HMS := Lib.hid (made_size jn)
    go_region_held3 (fun w' => w'.cell? ⟨p, 0, none⟩ = some (.int .i64 (jn : Int))) (repeat (first | with_reducible assumption | with_reducible refine kc_drew ?_ | with_reducible refine kc_drewN ?_ | with_reducible refine kc_alloc ?_ | with_reducible refine kc_set ?_ (by first | omega | (simp; done) | (simp; omega)))) (fail)
    all_goals (go_wp2_with fail; go_meet)
    · exact ⟨w.heap.size + 2, w.heap.size, w.heap.size + 1, _, rfl, blk_drew (blk_new (by simp)), blk_drew (blk_old (blk_old (blk_new rfl))), blk_drew (blk_old (blk_new (by simp))), HMS.out, ⟨by omega, by omega, by omega⟩, ⟨by omega, by omega, by omega⟩, by repeat (first | exact Below.refl _ _ | assumption | apply bl_alloc | apply bl_drewN | apply Below.drew | (refine bl_set ?_ (by first | exact Nat.le_refl _ | (simp; done) | (simp; omega)) _) | (refine bl_trans ?_ (by assumption)))⟩
    · exact ⟨w.heap.size + 2, w.heap.size + 1, w.heap.size, _, rfl, blk_drew (blk_new (by simp)), blk_drew (blk_old (blk_new (by simp))), blk_drew (blk_old (blk_old (blk_new rfl))), HMS.out, ⟨by omega, by omega, by omega⟩, ⟨by omega, by omega, by omega⟩, by repeat (first | exact Below.refl _ _ | assumption | apply bl_alloc | apply bl_drewN | apply Below.drew | (refine bl_set ?_ (by first | exact Nat.le_refl _ | (simp; done) | (simp; omega)) _) | (refine bl_trans ?_ (by assumption)))⟩
  case rest =>
    obtain ⟨q, g, gb, cb0, rfl, hq, hg, hby, hcb, hne, hge, hb⟩ := hcut
    obtain ⟨wk, rfl⟩ : ∃ x : World, x = wc := ⟨_, rfl⟩
    clear hmb hmi hp0 hp1
    obtain ⟨x0, x1, xl⟩ := row_two hq
    have s1 : wk.cell? ⟨g, sn, none⟩ = some (.bool (mkd (List.replicate jn false) sn)) := by rw [cell_of_row wk g sn _ _ _ hg, bls_get _ _ (by simp; omega)]
    have s2 : wk.frozen? ⟨g, sn, none⟩ = false := frozen_of_row wk g sn _ _ hg
    have G1 := Lib.hid (show (wk.setCell ⟨g, sn, none⟩ (.bool true)).heap[g]? = some (.cells (bls ((List.replicate jn false).set sn true)).toArray 4 (0, 0)) from by rw [← bls_set]; exact heap_setCell_same wk g sn _ _ _ hg)
    have Q1 := Lib.hid (kb_set (p := ⟨g, sn, none⟩) (u := .bool true) hq (by first | (simp; done) | (simp; omega)))
    have B1 := Lib.hid (kb_set (p := ⟨g, sn, none⟩) (u := .bool true) hby (by first | (simp; done) | (simp; omega)))
    have L1 := Lib.hid (bl_set (p := ⟨g, sn, none⟩) hb hge.1 (.bool true))
    have HC0 := Lib.hid hcb
    have HS0 := Lib.hid (Bel.start (N := jn) (n := n) (fl := fl) (s := ((sn : Nat) : Int)) (by omega) (by simpa using hs.2))
    clear hq hg hby hcb hb
    go_wp2
    go_loopg [8] (unm ((List.replicate jn false).set sn true) + 1) (fun m v wr => ∃ sb more cb, v = .bool more ∧ m = (if more then unm sb + 1 else 0) ∧ sb.length = jn ∧ mkd sb ((sn : Nat) : Int).toNat = true ∧ (∀ j, j < jn → mkd sb j = true → Rch n fl ((sn : Nat) : Int) (j : Int)) ∧ (more = false → ∃ u0, Bel jn n fl ((sn : Nat) : Int) u0 sb false n) ∧ wr.heap[q]? = some (.cells #[.slice (some ⟨g, 0, none⟩) jn jn, .slice (some ⟨gb, 0, none⟩) jn jn] 85 (0, 0)) ∧ wr.heap[g]? = some (.cells (bls sb).toArray 4 (0, 0)) ∧ wr.heap[gb]? = some (.cells cb 3 (0, 0)) ∧ cb.size = jn ∧ Below w.heap.size w wr)
    case atStart => exact ⟨(List.replicate jn false).set sn true, true, cb0, rfl, by simp, by simp, by simp [mkd_set, hs.2], by simpa using HS0.out, (fun h => by cases h), Q1.out, G1.out, B1.out, HC0.out, L1.out⟩
    case round =>
      clear G1 Q1 B1 L1 HC0 HS0 x0 x1 xl s1 s2
      obtain ⟨sb0, more0, cbx, rfl, hgk, hsl, hsh, hss, hdone, hq, hg, hby, hcb, hb⟩ := hrel
      have HGK0 := Lib.hid hgk
      clear hgk
      cases more0
      · obtain ⟨u0, hbel⟩ := hdone rfl
        have HE := Lib.hid (show Walked n fl ((sn : Nat) : Int) jn w (.returned (.pointer (some ⟨q, 0, none⟩))) wr from ⟨q, g, gb, sb0, rfl, hq, hg, hsl, hbel.fin (by omega) (fun i hi => ⟨(HV.out i hi).1.1, (HV.out i hi).2.1.1⟩), hb⟩)
        clear hbel hsl hsh hss hdone hq hg hby hcb hb
        go_wp2
        go_ret
        exact HE.out
      · obtain ⟨u0, hu0⟩ : ∃ u0, u0 = unm sb0 := ⟨_, rfl⟩
        have HGK := Lib.hid (show gk = u0 + 1 from by rw [hu0]; simpa using HGK0.out)
        have H0 := Lib.hid (show Bel jn n fl ((sn : Nat) : Int) u0 sb0 false 0 from ⟨hsl, hsh, hss, fun _ q hq => absurd hq (by omega), by rw [hu0]; exact ⟨Nat.le_refl _, fun h => by cases h⟩⟩)
        have HX := Lib.hid (And.intro hq (And.intro hg (And.intro hby (And.intro hcb hb))))
        have p0 := (hb.cell (p := ⟨p, 0, none⟩) hpl).trans HP.out.1
        have p1 := (hb.cell (p := ⟨p, 1, none⟩) hpl).trans HP.out.2
        clear hu0 HGK0 hsl hsh hss hdone hq hg hby hcb hb
        go_wp2
        go_loopg [8, 9] n (fun m v i wr => ∃ k sb more cb, k ≤ n ∧ m = n - k ∧ i = .int .i64 (k : Int) ∧ v = .bool more ∧ Bel jn n fl ((sn : Nat) : Int) u0 sb more k ∧ wr.heap[q]? = some (.cells #[.slice (some ⟨g, 0, none⟩) jn jn, .slice (some ⟨gb, 0, none⟩) jn jn] 85 (0, 0)) ∧ wr.heap[g]? = some (.cells (bls sb).toArray 4 (0, 0)) ∧ wr.heap[gb]? = some (.cells cb 3 (0, 0)) ∧ cb.size = jn ∧ Below w.heap.size w wr)
        case atStart => exact ⟨0, sb0, false, cbx, Nat.zero_le _, rfl, rfl, rfl, H0.out, HX.out.1, HX.out.2.1, HX.out.2.2.1, HX.out.2.2.2.1, HX.out.2.2.2.2⟩
        case round =>
          clear H0 HX p0 p1
          obtain ⟨k, sb, more, cb, hk, hgk, rfl, rfl, hbel, hq, hg, hby, hcb, hb⟩ := hrel
          have HGI := Lib.hid hgk
          have HBEL := Lib.hid hbel
          have HQ := Lib.hid hq
          have HG := Lib.hid hg
          have HBY := Lib.hid hby
          have HCB := Lib.hid hcb
          have HB := Lib.hid hb
          have HSL := Lib.hid hbel.len
          have zb := hb.size
          have p0 := (hb.cell (p := ⟨p, 0, none⟩) hpl).trans HP.out.1
          have p1 := (hb.cell (p := ⟨p, 1, none⟩) hpl).trans HP.out.2
          clear hgk
          by_cases hlt : k < n
          · obtain ⟨b, off, rfl, hbl, hcell⟩ := HA.out (by rw [ints_len, HL.out]; omega)
            obtain ⟨d0, d1, d2⟩ := dit_cells hbl hcell HL.out hlt hb
            clear hcell
            have hv := HV.out k hlt
            obtain ⟨f0, hf0⟩ : ∃ f0 : Nat, dF fl k = (f0 : Int) := ⟨(dF fl k).toNat, by omega⟩
            obtain ⟨t0, ht0⟩ : ∃ t0 : Nat, dT fl k = (t0 : Int) := ⟨(dT fl k).toNat, by omega⟩
            obtain ⟨w0, hw0⟩ : ∃ w0 : Int, dW fl k = w0 := ⟨_, rfl⟩
            have HF0 := Lib.hid hf0
            have HT0 := Lib.hid ht0
            have HW0 := Lib.hid hw0
            rw [hf0] at d0 hv
            rw [ht0] at d1 hv
            rw [hw0] at d2 hv
            have hfj : f0 < jn := by omega
            have htj : t0 < jn := by omega
            have hwb : 0 ≤ w0 ∧ w0 ≤ 1000 := hv.2.2.2
            have fz : wr.cell? ⟨bF, k, none⟩ = some (.int .i64 0) := (hb.cell (p := ⟨bF, k, none⟩) hbF).trans (HF.out k hlt)
            have lt3 : g < wr.heap.size ∧ gb < wr.heap.size ∧ q < wr.heap.size := ⟨blk_lt hg, blk_lt hby, blk_lt hq⟩
            obtain ⟨x0, x1, xl⟩ := row_two hq
            have s1 : wr.cell? ⟨g, f0, none⟩ = some (.bool (mkd sb f0)) := by rw [cell_of_row wr g f0 _ _ _ hg, bls_get _ _ (by rw [HSL.out]; exact hfj)]
            have s2 : wr.cell? ⟨g, t0, none⟩ = some (.bool (mkd sb t0)) := by rw [cell_of_row wr g t0 _ _ _ hg, bls_get _ _ (by rw [HSL.out]; exact htj)]
            have kn0 : (0 : Int) ≤ (k : Int) := by omega
            have kn1 : (k : Int) < (n : Int) := by omega
            have hk20 : n ≤ 20 := hn
            have fj0 : (0 : Int) ≤ (f0 : Int) := by omega
            have fj1 : (f0 : Int) < (jn : Int) := by omega
            have tj0 : (0 : Int) ≤ (t0 : Int) := by omega
            have tj1 : (t0 : Int) < (jn : Int) := by omega
            clear hf0 ht0 hw0 hv hbel hq hg hby hcb hb
            go_upto_region 10 with fail
            obtain ⟨wv, hwv⟩ : ∃ wv, wv = wr.alloc (.cells #[.int .i64 ((f0 : Nat) : Int), .int .i64 ((t0 : Nat) : Int), .int .i64 w0] 101) := ⟨_, rfl⟩
            have KD := Lib.hid (show wv.heap[wr.heap.size]? = some (.cells #[.int .i64 ((f0 : Nat) : Int), .int .i64 ((t0 : Nat) : Int), .int .i64 w0] 101 (0, 0)) from by rw [hwv]; exact heap_alloc_new _ _)
            have KQ := Lib.hid (show wv.heap[q]? = some (.cells #[.slice (some ⟨g, 0, none⟩) jn jn, .slice (some ⟨gb, 0, none⟩) jn jn] 85 (0, 0)) from by rw [hwv]; exact blk_old HQ.out)
            have KG := Lib.hid (show wv.heap[g]? = some (.cells (bls sb).toArray 4 (0, 0)) from by rw [hwv]; exact blk_old HG.out)
            have KY := Lib.hid (show wv.heap[gb]? = some (.cells cb 3 (0, 0)) from by rw [hwv]; exact blk_old HBY.out)
            have KB := Lib.hid (show Below w.heap.size w wv from by rw [hwv]; exact bl_alloc HB.out _)
            have s1 : wv.cell? ⟨g, f0, none⟩ = some (.bool (mkd sb f0)) := by rw [hwv]; exact kc_alloc s1
            have s2 : wv.cell? ⟨g, t0, none⟩ = some (.bool (mkd sb t0)) := by rw [hwv]; exact kc_alloc s2
            have fz : wv.cell? ⟨bF, k, none⟩ = some (.int .i64 0) := by rw [hwv]; exact kc_alloc fz
            have x0 : wv.cell? ⟨q, 0, none⟩ = some (.slice (some ⟨g, 0, none⟩) jn jn) := by rw [hwv]; exact kc_alloc x0
            obtain ⟨e0, e1, e2, el⟩ := row_three KD.out
            rw [← hwv]
            clear hwv
            go_cut [73] (fun s73 wx => s73 = .bool (decide (0 < w0) && (mkd sb f0 && !(mkd sb t0))) ∧ wx.heap[wr.heap.size]? = some (.cells #[.int .i64 ((f0 : Nat) : Int), .int .i64 ((t0 : Nat) : Int), .int .i64 w0] 101 (0, 0)) ∧ wx.heap[q]? = some (.cells #[.slice (some ⟨g, 0, none⟩) jn jn, .slice (some ⟨gb, 0, none⟩) jn jn] 85 (0, 0)) ∧ wx.heap[g]? = some (.cells (bls sb).toArray 4 (0, 0)) ∧ wx.heap[gb]? = some (.cells cb 3 (0, 0)) ∧ Below w.heap.size w wx)
            case first =>
              by_cases w1 : 0 < w0
              · cases m1 : mkd sb f0
                · rw [m1] at s1
                  have HBV := Lib.hid (show (decide (0 < w0) && (mkd sb f0 && !(mkd sb t0))) = false by simp [m1])
                  clear m1
                  go_quiet (fail)
                  go_wp2_with fail
                  go_meet
                  exact ⟨by rw [HBV.out], blk_drewN KD.out, blk_drewN KQ.out, blk_drewN KG.out, blk_drewN KY.out, bl_drewN KB.out _⟩
                · rw [m1] at s1
                  cases m2 : mkd sb t0
                  · rw [m2] at s2
                    have HBV := Lib.hid (show (decide (0 < w0) && (mkd sb f0 && !(mkd sb t0))) = true by simp [w1, m1, m2])
                    clear m1 m2
                    go_quiet (fail)
                    go_wp2_with fail
                    go_meet
                    exact ⟨by rw [HBV.out], blk_drewN KD.out, blk_drewN KQ.out, blk_drewN KG.out, blk_drewN KY.out, bl_drewN KB.out _⟩
                  · rw [m2] at s2
                    have HBV := Lib.hid (show (decide (0 < w0) && (mkd sb f0 && !(mkd sb t0))) = false by simp [m2])
                    clear m1 m2
                    go_quiet (fail)
                    go_wp2_with fail
                    go_meet
                    exact ⟨by rw [HBV.out], blk_drewN KD.out, blk_drewN KQ.out, blk_drewN KG.out, blk_drewN KY.out, bl_drewN KB.out _⟩
              · have HBV := Lib.hid (show (decide (0 < w0) && (mkd sb f0 && !(mkd sb t0))) = false by simp [w1])
                have w1' : decide (0 < w0) = false := by simpa using w1
                go_quiet (fail)
                go_wp2_with fail
                go_meet
                exact ⟨by rw [HBV.out], blk_drewN KD.out, blk_drewN KQ.out, blk_drewN KG.out, blk_drewN KY.out, bl_drewN KB.out _⟩
            case rest =>
              obtain ⟨rfl, kd, hq, hg, hby, hb⟩ := hcut
              obtain ⟨wy, rfl⟩ : ∃ x : World, x = wc := ⟨_, rfl⟩
              clear s1 s2 d0 d1 d2 x0 x1 xl p0 p1 fz HQ HG HBY HB e0 e1 e2 el KD KQ KG KY KB
              obtain ⟨x0, x1, xl⟩ := row_two hq
              obtain ⟨e0, e1, e2, el⟩ := row_three kd
              have fz := (hb.cell (p := ⟨bF, k, none⟩) hbF).trans (HF.out k hlt)
              cases hbq : (decide (0 < w0) && (mkd sb f0 && !(mkd sb t0)))
              · have HBEL2 := Lib.hid (HBEL.out.skip (fun h1 h2 => by
                  rw [HW0.out] at h1
                  rw [HF0.out, Int.toNat_natCast] at h2
                  rw [HT0.out, Int.toNat_natCast]
                  simpa [h1, h2] using hbq))
                clear hbq
                go_wp2
                go_quiet (fail)
                go_wp2
                go_roundg (n - (k + 1))
                case measure => rw [HGI.out]; omega
                case rel => exact ⟨k + 1, sb, more, cb, by omega, rfl, by go_num, rfl, HBEL2.out, blk_drewN hq, blk_drewN hg, blk_drewN hby, HCB.out, bl_drewN hb _⟩
              · have hh : 0 < w0 ∧ mkd sb f0 = true ∧ mkd sb t0 = false := by simpa using hbq
                have HBEL2 := Lib.hid (show Bel jn n fl ((sn : Nat) : Int) u0 (sb.set t0 true) true (k + 1) from by
                  have h := HBEL.out.set hlt (by rw [HW0.out]; exact hh.1) (by rw [HF0.out, Int.toNat_natCast]; exact ⟨by omega, hfj⟩) (by rw [HT0.out, Int.toNat_natCast]; exact ⟨by omega, htj⟩) (by rw [HF0.out, Int.toNat_natCast]; exact hh.2.1) (by rw [HT0.out, Int.toNat_natCast]; exact hh.2.2)
                  rw [HT0.out, Int.toNat_natCast] at h
                  exact h)
                have ts1 : wy.cell? ⟨g, t0, none⟩ = some (.bool (mkd sb t0)) := by rw [cell_of_row wy g t0 _ _ _ hg, bls_get _ _ (by rw [HSL.out]; exact htj)]
                have ts2 : wy.frozen? ⟨g, t0, none⟩ = false := frozen_of_row wy g t0 _ _ hg
                have G2 := Lib.hid (show (wy.setCell ⟨g, t0, none⟩ (.bool true)).heap[g]? = some (.cells (bls (sb.set t0 true)).toArray 4 (0, 0)) from by rw [← bls_set]; exact heap_setCell_same wy g t0 _ _ _ hg)
                have Q2 := Lib.hid (kb_set (p := ⟨g, t0, none⟩) (u := .bool true) hq (by first | (simp; done) | (simp; omega)))
                have B2 := Lib.hid (kb_set (p := ⟨g, t0, none⟩) (u := .bool true) hby (by first | (simp; done) | (simp; omega)))
                have D2 := Lib.hid (kb_set (p := ⟨g, t0, none⟩) (u := .bool true) kd (by first | (simp; done) | (simp; omega)))
                have L2 := Lib.hid (bl_set (p := ⟨g, t0, none⟩) hb hge.1 (.bool true))
                clear hbq hh
                go_wp2
                refine region_cutH (S := fun w' => w'.cell? ⟨q, 0, none⟩ = some (.slice (some ⟨g, 0, none⟩) jn jn) ∧ w'.cell? ⟨wr.heap.size, 1, none⟩ = some (.int .i64 ((t0 : Nat) : Int))) 7 (by kernel_rfl) (by kernel_rfl) ?hS1 (fun hHeld => ?hR1)
                case hS1 => (((try dsimp only); refine ⟨?_, ?_⟩ <;> (repeat (first | with_reducible assumption | with_reducible refine kc_drew ?_ | with_reducible refine kc_drewN ?_ | with_reducible refine kc_alloc ?_ | with_reducible refine kc_set ?_ (by first | omega | (simp; done) | (simp; omega))))))
                simp only [List.take_succ_cons, List.take_zero, List.drop_succ_cons, List.drop_zero]
                refine wpAnyH_take (i := 0) (v := ?hv2) rfl (by kernel_rfl) (by kernel_rfl) (by kernel_rfl) (fun _ _ _ h => h) (Or.inl ⟨by rfl, ?hy2⟩) (by assumption) ?hR2
                case hy2 => (intro wq hSw; (try dsimp only at hSw); go_simp; (try with_reducible rfl))
                simp only [Act.put, List.setIfInBounds_toArray, List.set_cons_zero, List.set_cons_succ]
                refine wpAnyH_take (i := 1) (v := ?hv3) rfl (by kernel_rfl) (by kernel_rfl) (by kernel_rfl) (fun _ _ _ h => h) (Or.inl ⟨by rfl, ?hy3⟩) (by assumption) ?hR3
                case hy3 => (intro wq hSw; (try dsimp only at hSw); go_simp; (try with_reducible rfl))
                simp only [Act.put, List.setIfInBounds_toArray, List.set_cons_zero, List.set_cons_succ]
                refine wpAnyH_take (i := 2) (v := ?hv4) rfl (by kernel_rfl) (by kernel_rfl) (by kernel_rfl) (fun _ _ _ h => h) (Or.inl ⟨by rfl, ?hy4⟩) (by assumption) ?hR4
                case hy4 => (intro wq hSw; (try dsimp only at hSw); go_simp; (try with_reducible rfl))
                simp only [Act.put, List.setIfInBounds_toArray, List.set_cons_zero, List.set_cons_succ]
                refine wpAnyH_take (i := 3) (v := ?hv5) rfl (by kernel_rfl) (by kernel_rfl) (by kernel_rfl) (fun _ _ _ h => h) (Or.inl ⟨by rfl, ?hy5⟩) (by assumption) ?hR5
                case hy5 => (intro wq hSw; (try dsimp only at hSw); go_simp; (try with_reducible rfl))
                simp only [Act.put, List.setIfInBounds_toArray, List.set_cons_zero, List.set_cons_succ]
                refine wpAnyH_take (i := 4) (v := ?hv6) rfl (by kernel_rfl) (by kernel_rfl) (by kernel_rfl) (fun _ _ _ h => h) (Or.inl ⟨by rfl, ?hy6⟩) (by assumption) ?hR6
                case hy6 => (intro wq hSw; (try dsimp only at hSw); go_simp; (try with_reducible rfl))
                simp only [Act.put, List.setIfInBounds_toArray, List.set_cons_zero, List.set_cons_succ]
                refine wpAnyH_take (i := 5) (v := ?hv7) rfl (by kernel_rfl) (by kernel_rfl) (by kernel_rfl) (fun _ _ _ h => h) (Or.inl ⟨by rfl, ?hy7⟩) (by assumption) ?hR7
                case hy7 => (intro wq hSw; (try dsimp only at hSw); go_simp; (try with_reducible rfl))
                simp only [Act.put, List.setIfInBounds_toArray, List.set_cons_zero, List.set_cons_succ]
                refine wpAnyH_take (i := 6) (v := ?hv8) rfl (by kernel_rfl) (by kernel_rfl) (by kernel_rfl) (fun _ _ _ h => h) (Or.inl ⟨by rfl, ?hy8⟩) (by assumption) ?hR8
                case hy8 => (intro wq hSw; (try dsimp only at hSw); go_simp; (try with_reducible rfl))
                simp only [Act.put, List.setIfInBounds_toArray, List.set_cons_zero, List.set_cons_succ]
                refine wpAnyH_done (by kernel_rfl) ?hR9 _
                show wpList _ _ _ _ _ _
                go_upto_region 12 with fail
                obtain ⟨wz, hwz⟩ : ∃ wz, wz = wy.setCell ⟨g, t0, none⟩ (.bool true) := ⟨_, rfl⟩
                rw [← hwz]
                rw [← hwz] at G2 Q2 B2 D2 L2
                clear hwz ts1 ts2 x0 x1 xl e0 e1 e2 el hq hg hby hb kd fz
                obtain ⟨x0, x1, xl⟩ := row_two Q2.out
                obtain ⟨e0, e1, e2, el⟩ := row_three D2.out
                obtain ⟨yv, y1⟩ : ∃ yv, wz.cell? ⟨gb, t0, none⟩ = some yv := ⟨_, (cell_of_row wz gb t0 _ _ _ B2.out).trans (Array.getElem?_eq_getElem (by rw [HCB.out]; exact htj))⟩
                have y2 : wz.frozen? ⟨gb, t0, none⟩ = false := frozen_of_row wz gb t0 _ _ B2.out
                have B3 := Lib.hid (heap_setCell_same wz gb t0 _ _ (.int .i64 (k : Int)) B2.out)
                have G3 := Lib.hid (kb_set (p := ⟨gb, t0, none⟩) (u := .int .i64 (k : Int)) G2.out (by first | (simp; done) | (simp; omega)))
                have Q3 := Lib.hid (kb_set (p := ⟨gb, t0, none⟩) (u := .int .i64 (k : Int)) Q2.out (by first | (simp; done) | (simp; omega)))
                have L3 := Lib.hid (bl_set (p := ⟨gb, t0, none⟩) L2.out hge.2.1 (.int .i64 (k : Int)))
                have fz := (L3.out.cell (p := ⟨bF, k, none⟩) hbF).trans (HF.out k hlt)
                refine region_cutH (S := fun w' => w'.cell? ⟨q, 1, none⟩ = some (.slice (some ⟨gb, 0, none⟩) jn jn) ∧ w'.cell? ⟨wr.heap.size, 1, none⟩ = some (.int .i64 ((t0 : Nat) : Int))) 8 (by kernel_rfl) (by kernel_rfl) ?hS10 (fun hHeld => ?hR10)
                case hS10 => (((try dsimp only); refine ⟨?_, ?_⟩ <;> (repeat (first | with_reducible assumption | with_reducible refine kc_drew ?_ | with_reducible refine kc_drewN ?_ | with_reducible refine kc_alloc ?_ | with_reducible refine kc_set ?_ (by first | omega | (simp; done) | (simp; omega))))))
                simp only [List.take_succ_cons, List.take_zero, List.drop_succ_cons, List.drop_zero]
                refine wpAnyH_take (i := 0) (v := ?hv11) rfl (by kernel_rfl) (by kernel_rfl) (by kernel_rfl) (fun _ _ _ h => h) (Or.inl ⟨by rfl, ?hy11⟩) (by assumption) ?hR11
                case hy11 => (intro wq hSw; (try dsimp only at hSw); go_simp; (try with_reducible rfl))
                simp only [Act.put, List.setIfInBounds_toArray, List.set_cons_zero, List.set_cons_succ]
                refine wpAnyH_take (i := 1) (v := ?hv12) rfl (by kernel_rfl) (by kernel_rfl) (by kernel_rfl) (fun _ _ _ h => h) (Or.inl ⟨by rfl, ?hy12⟩) (by assumption) ?hR12
                case hy12 => (intro wq hSw; (try dsimp only at hSw); go_simp; (try with_reducible rfl))
                simp only [Act.put, List.setIfInBounds_toArray, List.set_cons_zero, List.set_cons_succ]
                refine wpAnyH_take (i := 2) (v := ?hv13) rfl (by kernel_rfl) (by kernel_rfl) (by kernel_rfl) (fun _ _ _ h => h) (Or.inl ⟨by rfl, ?hy13⟩) (by assumption) ?hR13
                case hy13 => (intro wq hSw; (try dsimp only at hSw); go_simp; (try with_reducible rfl))
                simp only [Act.put, List.setIfInBounds_toArray, List.set_cons_zero, List.set_cons_succ]
                refine wpAnyH_take (i := 3) (v := ?hv14) rfl (by kernel_rfl) (by kernel_rfl) (by kernel_rfl) (fun _ _ _ h => h) (Or.inl ⟨by rfl, ?hy14⟩) (by assumption) ?hR14
                case hy14 => (intro wq hSw; (try dsimp only at hSw); go_simp; (try with_reducible rfl))
                simp only [Act.put, List.setIfInBounds_toArray, List.set_cons_zero, List.set_cons_succ]
                refine wpAnyH_take (i := 4) (v := ?hv15) rfl (by kernel_rfl) (by kernel_rfl) (by kernel_rfl) (fun _ _ _ h => h) (Or.inl ⟨by rfl, ?hy15⟩) (by assumption) ?hR15
                case hy15 => (intro wq hSw; (try dsimp only at hSw); go_simp; (try with_reducible rfl))
                simp only [Act.put, List.setIfInBounds_toArray, List.set_cons_zero, List.set_cons_succ]
                refine wpAnyH_take (i := 5) (v := ?hv16) rfl (by kernel_rfl) (by kernel_rfl) (by kernel_rfl) (fun _ _ _ h => h) (Or.inl ⟨by rfl, ?hy16⟩) (by assumption) ?hR16
                case hy16 => (intro wq hSw; (try dsimp only at hSw); go_simp; (try with_reducible rfl))
                simp only [Act.put, List.setIfInBounds_toArray, List.set_cons_zero, List.set_cons_succ]
                refine wpAnyH_take (i := 6) (v := ?hv17) rfl (by kernel_rfl) (by kernel_rfl) (by kernel_rfl) (fun _ _ _ h => h) (Or.inl ⟨by rfl, ?hy17⟩) (by assumption) ?hR17
                case hy17 => (intro wq hSw; (try dsimp only at hSw); go_simp; (try with_reducible rfl))
                simp only [Act.put, List.setIfInBounds_toArray, List.set_cons_zero, List.set_cons_succ]
                refine wpAnyH_take (i := 7) (v := ?hv18) rfl (by kernel_rfl) (by kernel_rfl) (by kernel_rfl) (fun _ _ _ h => h) (Or.inl ⟨by rfl, ?hy18⟩) (by assumption) ?hR18
                case hy18 => (intro wq hSw; (try dsimp only at hSw); go_simp; (try with_reducible rfl))
                simp only [Act.put, List.setIfInBounds_toArray, List.set_cons_zero, List.set_cons_succ]
                refine wpAnyH_done (by kernel_rfl) ?hR19 _
                show wpList _ _ _ _ _ _
                go_wp2
                go_quiet (fail)
                go_wp2
                go_roundg (n - (k + 1))
                case measure => rw [HGI.out]; omega
                case rel => exact ⟨k + 1, sb.set t0 true, true, _, by omega, rfl, by go_num, rfl, HBEL2.out, blk_drewN Q3.out, blk_drewN G3.out, blk_drewN B3.out, by simpa using HCB.out, bl_drewN L3.out _⟩
          · obtain rfl : k = n := by omega
            have HM := Lib.hid hbel.un
            go_wp2
            go_roundg (if more then unm sb + 1 else 0)
            case measure => rw [HGK.out]; have := HM.out; cases more <;> simp at this ⊢ <;> omega
            case rel => exact ⟨sb, more, cb, rfl, rfl, hbel.len, hbel.has, hbel.sub, (fun h => by subst h; exact ⟨_, hbel⟩), hq, hg, hby, hcb, hb⟩
set_option maxRecDepth 100000 in
set_option maxHeartbeats 3200000 in
theorem specReached (w : World) (J s : Int) (A : Option Addr) (n k : Nat) (fl : List Int) (hA : RC w A (ints fl)) (lf : fl.length = n * 3) (hm : n ≤ 1048576) :
    Calls Try.prog 25 #[.agg #[.int .i64 J, .slice A n k], .int .i64 s] w (NewIntsC (reL J n fl s) (reC J n fl s) w) := by
  have HA := Lib.hid hA
  have HL := Lib.hid lf
  clear hA lf
  cases k1 : netOk J n fl
  · have H := Lib.hid (re_1 (s := s) k1)
    have hc := nc_1 (s := s) k1
    go_enter Try.func25, Try.ntmps25
    go_wp2_with (go_at_call 55; refine (l04Code_any _ w.heap.size J s A n k fl (by first | exact x0 | simp [go_sem]) (by first | exact x1 | simp [go_sem]) (HA.out.below (by repeat (first | exact Below.refl _ _ | assumption | apply bl_alloc | apply bl_drewN | apply Below.drew | (refine bl_set ?_ (by first | exact Nat.le_refl _ | (simp; done) | (simp; omega)) _) | (refine bl_trans ?_ (by assumption))))) HL.out hm).mono ?_; rintro e w1 ⟨rfl, hb1⟩; have kx : w1.heap[w.heap.size]? = some (.cells #[.int .i64 J, .slice A n k] 55 (0, 0)) := keep_blk (hb := hb1) (h := by first | exact kx | exact heap_alloc_new _ _); obtain ⟨x0, x1, xl⟩ := row_two kx)
    go_ret2
    rw [H.out.1, H.out.2]
    exact newC_nil _ _ _ _ (by repeat (first | exact Below.refl _ _ | assumption | apply bl_alloc | apply bl_drewN | apply Below.drew | (refine bl_set ?_ (by first | exact Nat.le_refl _ | (simp; done) | (simp; omega)) _) | (refine bl_trans ?_ (by assumption))))
  · have N := Lib.hid (netOk_of k1)
    obtain ⟨jn, rfl⟩ : ∃ jn : Nat, J = (jn : Int) := ⟨J.toNat, by have := N.out.1; omega⟩
    have jl : 2 ≤ jn := by have := N.out.1; omega
    have jh : jn ≤ 10 := by have := N.out.1; omega
    cases k2 : inR s 1 ((jn : Int) - 1)
    · have H := Lib.hid (re_2 k1 k2)
      have hc := nc_2 k1 k2
      go_enter Try.func25, Try.ntmps25
      go_wp2_with (go_at_call 55; refine (l04Code_any _ w.heap.size (jn : Int) s A n k fl (by first | exact x0 | simp [go_sem]) (by first | exact x1 | simp [go_sem]) (HA.out.below (by repeat (first | exact Below.refl _ _ | assumption | apply bl_alloc | apply bl_drewN | apply Below.drew | (refine bl_set ?_ (by first | exact Nat.le_refl _ | (simp; done) | (simp; omega)) _) | (refine bl_trans ?_ (by assumption))))) HL.out hm).mono ?_; rintro e w1 ⟨rfl, hb1⟩; have kx : w1.heap[w.heap.size]? = some (.cells #[.int .i64 (jn : Int), .slice A n k] 55 (0, 0)) := keep_blk (hb := hb1) (h := by first | exact kx | exact heap_alloc_new _ _); obtain ⟨x0, x1, xl⟩ := row_two kx)
      go_ret2
      rw [H.out.1, H.out.2]
      exact newC_nil _ _ _ _ (by repeat (first | exact Below.refl _ _ | assumption | apply bl_alloc | apply bl_drewN | apply Below.drew | (refine bl_set ?_ (by first | exact Nat.le_refl _ | (simp; done) | (simp; omega)) _) | (refine bl_trans ?_ (by assumption))))
    · have SR := inR_of k2
      obtain ⟨sn, rfl⟩ : ∃ sn : Nat, s = (sn : Int) := ⟨s.toNat, by omega⟩
      have sl : 1 ≤ sn := by omega
      have sh : sn < jn := by omega
      have H := Lib.hid (re_3 k1 k2)
      have hc := nc_3 k1 k2
      have hm6 := fun W => make_i6 n (by have := N.out.2.1; omega) W
      go_enter Try.func25, Try.ntmps25
      go_wp2_with (go_at_call 55; refine (l04Code_any _ w.heap.size (jn : Int) ((sn : Nat) : Int) A n k fl (by first | exact x0 | simp [go_sem]) (by first | exact x1 | simp [go_sem]) (HA.out.below (by repeat (first | exact Below.refl _ _ | assumption | apply bl_alloc | apply bl_drewN | apply Below.drew | (refine bl_set ?_ (by first | exact Nat.le_refl _ | (simp; done) | (simp; omega)) _) | (refine bl_trans ?_ (by assumption))))) HL.out hm).mono ?_; rintro e w1 ⟨rfl, hb1⟩; have kx : w1.heap[w.heap.size]? = some (.cells #[.int .i64 (jn : Int), .slice A n k] 55 (0, 0)) := keep_blk (hb := hb1) (h := by first | exact kx | exact heap_alloc_new _ _); obtain ⟨x0, x1, xl⟩ := row_two kx)
      refine (l04Walk_any _ w.heap.size jn sn A n k w1.heap.size fl (by first | exact kc_alloc x0 | simp [go_sem, x0]) (by first | exact kc_alloc x1 | simp [go_sem, x1]) (by simp; omega) (HA.out.below (by repeat (first | exact Below.refl _ _ | assumption | apply bl_alloc | apply bl_drewN | apply Below.drew | (refine bl_set ?_ (by first | exact Nat.le_refl _ | (simp; done) | (simp; omega)) _) | (refine bl_trans ?_ (by assumption))))) HL.out N.out.2.1 ⟨jl, jh⟩ ⟨sl, sh⟩ (fun i hi => (cell_of_row _ _ i _ _ _ (heap_alloc_new w1 _)).trans (made_get n i hi)) (by simp) N.out.2.2).mono ?_; rintro e w3 ⟨q, g, gb, sb, rfl, hq, hg, hsl, hsr, hb3⟩; obtain ⟨y0, y1, yl⟩ := row_two hq
      go_wp2_with fail
      refine (l04List_any _ g jn sb hg hsl (by omega)).mono ?_; rintro e w4 ⟨A4, c4, rfl, o4, hb4⟩
      go_wp2
      go_ret2
      rw [H.out.1, H.out.2]
      have e := idxTo_same jn hsr
      rw [show ((jn : Int)).toNat = jn from Int.toNat_natCast jn, ← e]
      exact newC_of o4 (by repeat (first | exact Below.refl _ _ | assumption | apply bl_alloc | apply bl_drewN | apply Below.drew | (refine bl_set ?_ (by first | exact Nat.le_refl _ | (simp; done) | (simp; omega)) _) | (refine bl_trans ?_ (by assumption)))) hb4
end Go.Proofs.Ytcgnnlgakfndaaa
