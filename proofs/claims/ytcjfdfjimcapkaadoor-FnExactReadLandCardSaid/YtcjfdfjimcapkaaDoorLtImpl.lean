/-
  Contract on the text of a land: the program's. It holds for every land of at most 1048576 heights whose slice is as wide as it is long, where a table of the library reads as it is laid.
-/
import Derived.Test.YtcjfdfjimcapkaaDoorJoinN
import Derived.Test.YtcjfdfjimcapkaaDoorBld
import Derived.Test.YtcjfdfjimcapkaaDoorLand
import Derived.Test.YtcjfdfjimcapkaaDoorOnly
namespace Go.Proofs.YtcjfdfjimcapkaaDoor
set_option linter.unusedVariables false
open Go.RowKit
abbrev Bld (b : Nat) (l : List UInt8) (w : World) : Prop := Lib.IsBuilder 88 5 b b (Lib.byteCells l) w
theorem bldAt_bel {b : Nat} {p : Value} {bs : List Value} {T e : TypeId} {w W : World} (h : Lib.BuilderAt T e b b p bs w) (hb : Below w.heap.size w W) : Lib.BuilderAt T e b b p bs W := by
  obtain ⟨h1, v, hv, hown, hne⟩ := h
  exact ⟨h1, v, (hb.block b (Array.getElem?_eq_some_iff.1 hv).1).trans hv, own_beJ hown hb, hne⟩
theorem bld_bel {b : Nat} {l : List UInt8} {w W : World} (h : Bld b l w) (hb : Below w.heap.size w W) : Bld b l W := by
  rcases h with h | h
  · exact .inl (bldAt_bel h hb)
  · exact .inr (bldAt_bel h hb)
theorem bld_put {b : Nat} {l m : List UInt8} {w : World} (h : Lib.BuilderAt 88 5 b b (.pointer (some ⟨b, 0, none⟩)) (Lib.byteCells l ++ Lib.strCells ⟨m.toArray⟩) w) : Bld b (l ++ m) w := by
  refine .inr ?_
  rw [Lib.byteCells_append]
  exact h
theorem bcat (a b : List UInt8) : ((⟨a.toArray⟩ : ByteArray) ++ ⟨b.toArray⟩) = ⟨(a ++ b).toArray⟩ := by
  rw [← Lib.mk_data ((⟨a.toArray⟩ : ByteArray) ++ ⟨b.toArray⟩)]
  simp
theorem bld_row {b x i C : Nat} {hs : List Int} {w : World} (hx : x = i * C) (h : Lib.BuilderAt 88 5 b b (.pointer (some ⟨b, 0, none⟩)) (Lib.byteCells (ltTo hs C i) ++ Lib.strCells ((⟨(rwTo hs x C).toArray⟩ : ByteArray) ++ ⟨#[10]⟩)) w) : Bld b (ltTo hs C (i + 1)) w := by
  rw [bcat _ [10]] at h
  have := bld_put h
  rwa [lt_next, ← hx, List.append_assoc]
/-- what is left of the heights behind i rows -/
structure LeftIs (n R C i off x p L K : Nat) : Prop where
  hx : x = i * C
  hL : L = (R - i) * C
  hn : x + L = n
  hK : L ≤ K
  hp : 0 < L → p = off + x
theorem left_start {n R C off k : Nat} (h : n = R * C) (hk : n ≤ k) : LeftIs n R C 0 off 0 off n k := ⟨by simp, by simpa using h, by omega, hk, fun _ => rfl⟩
theorem left_row {n R C i off x p L K : Nat} (h : LeftIs n R C i off x p L K) (hi : i < R) (hC : 1 ≤ C) : C ≤ L ∧ 0 < L ∧ C ≤ K ∧ x + C ≤ n ∧ p = off + x := by
  have h1 := h.hL
  obtain ⟨d, hd⟩ : ∃ d, R - i = d + 1 := ⟨R - i - 1, by omega⟩
  rw [hd, Nat.add_mul, Nat.one_mul] at h1
  have h2 := h.hn
  have h3 := h.hK
  have h4 := h.hp (by omega)
  refine ⟨?_, ?_, ?_, ?_, h4⟩ <;> omega
theorem left_next {n R C i off x p L K q : Nat} (h : LeftIs n R C i off x p L K) (hi : i < R) (hC : 1 ≤ C) (hq : 0 < L - C → q = off + (x + C)) : LeftIs n R C (i + 1) off (x + C) q (L - C) (K - C) := by
  have h1 := h.hL
  have h0 := left_row h hi hC
  obtain ⟨d, hd⟩ : ∃ d, R - i = d + 1 := ⟨R - i - 1, by omega⟩
  rw [hd, Nat.add_mul, Nat.one_mul] at h1
  have h2 := h.hn
  have h3 := h.hK
  have h5 : R - (i + 1) = d := by omega
  refine ⟨by rw [h.hx, Nat.add_mul, Nat.one_mul], by rw [h5]; omega, by omega, by omega, hq⟩
theorem left_end {n R C i off x p L K : Nat} (h : LeftIs n R C i off x p L K) (hi : ¬ i < R) (hR : i ≤ R) : L = 0 := by
  have h1 := h.hL
  rw [show R - i = 0 by omega, Nat.zero_mul] at h1
  exact h1
set_option maxRecDepth 100000 in
set_option maxHeartbeats 3200000 in
theorem implLandText (w : World) (r c : Int) (A : Option Addr) (k : Nat) (hs : List Int) (B : Nat) (hBw : B ≤ w.heap.size) (ht : PowTab B w) (hA : RC w A (ints hs)) (hm : hs.length ≤ 1048576) (hk : hs.length ≤ k) :
    Calls Tryd.prog 41 #[.agg #[.int .i64 r, .int .i64 c, .slice A hs.length k]] w fun e w' => e = .returned (.string ⟨(ltText r c hs).toArray⟩) ∧ Below w.heap.size w w' := by
  have HA := Lib.hid hA
  have HT := Lib.hid ht
  clear hA ht
  cases k0 : landOk r c hs
  · have H := Lib.hid (ltt_no k0)
    go_enter Tryd.func41, Tryd.ntmps41
    go_wp2_with (go_at_call 40; refine (implValidLand _ _ _ _ _ _ (HA.out.below (by repeat (first | exact Below.refl _ _ | assumption | apply bl_alloc | apply bl_drewN | apply Below.drew | (refine bl_set ?_ (by first | exact Nat.le_refl _ | (simp; done) | (simp; omega)) _) | (refine bl_trans ?_ (by assumption))))) hm).mono ?_; rintro e w1 ⟨rfl, hb1⟩; have kx : w1.heap[w.heap.size]? = some (.cells #[.int .i64 r, .int .i64 c, .slice A hs.length k] 38 (0, 0)) := keep_blk (hb := hb1) (h := by repeat (first | (refine blk_new ?_; (first | rfl | (simp; done) | (simp; omega))) | refine blk_drewN ?_ | refine blk_old ?_)); obtain ⟨x0, x1, x2, xl⟩ := row_three kx)
    go_ret
    exact ⟨by rw [H.out]; rfl, by repeat (first | exact Below.refl _ _ | assumption | apply bl_alloc | apply bl_drewN | apply Below.drew | (refine bl_set ?_ (by first | exact Nat.le_refl _ | (simp; done) | (simp; omega)) _) | (refine bl_trans ?_ (by assumption)))⟩
  · have H := Lib.hid (ltt_yes k0)
    have L0 := Lib.hid (landOk_of k0)
    obtain ⟨R, hR⟩ : ∃ R : Nat, r = (R : Int) := ⟨r.toNat, by have := L0.out.1.1; omega⟩
    obtain ⟨C, hC⟩ : ∃ C : Nat, c = (C : Int) := ⟨c.toNat, by have := L0.out.2.1.1; omega⟩
    subst hR hC
    have hRC : hs.length = R * C := by have := L0.out.2.2.1; exact_mod_cast this
    have hC1 : 1 ≤ C := by have := L0.out.2.1.1; omega
    have hC2 : C ≤ 12 := by have := L0.out.2.1.2; omega
    have hR2 : R ≤ 12 := by have := L0.out.1.2; omega
    have HRC := Lib.hid hRC
    obtain ⟨b, off, rfl, hbl, hcell⟩ := HA.out (by rw [ints_len]; have := L0.out.2.2.2.1; omega)
    have HCE := Lib.hid hcell
    clear hcell hRC
    go_enter Tryd.func41, Tryd.ntmps41
    go_wp2_with (go_at_call 40; refine (implValidLand _ _ _ _ _ _ (HA.out.below (by repeat (first | exact Below.refl _ _ | assumption | apply bl_alloc | apply bl_drewN | apply Below.drew | (refine bl_set ?_ (by first | exact Nat.le_refl _ | (simp; done) | (simp; omega)) _) | (refine bl_trans ?_ (by assumption))))) hm).mono ?_; rintro e w1 ⟨rfl, hb1⟩; have kx : w1.heap[w.heap.size]? = some (.cells #[.int .i64 (R : Int), .int .i64 (C : Int), .slice (some ⟨b, off, none⟩) hs.length k] 38 (0, 0)) := keep_blk (hb := hb1) (h := by repeat (first | (refine blk_new ?_; (first | rfl | (simp; done) | (simp; omega))) | refine blk_drewN ?_ | refine blk_old ?_)); obtain ⟨x0, x1, x2, xl⟩ := row_three kx)
    have HB1 := Lib.hid (show Below w.heap.size w w1 by repeat (first | exact Below.refl _ _ | assumption | apply bl_alloc | apply bl_drewN | apply Below.drew | (refine bl_set ?_ (by first | exact Nat.le_refl _ | (simp; done) | (simp; omega)) _) | (refine bl_trans ?_ (by assumption))))
    have HB0 := Lib.hid (show Bld w1.heap.size (ltTo hs C 0) (w1.alloc (.cells #[.pointer none, .slice none 0 0] 88)) from Lib.fresh_isBuilder _ _ w1)
    have HL0 := Lib.hid (left_start (off := off) HRC.out hk)
    have hw1 := xl
    clear xl
    clear k0
    go_loopg [4] R (fun m v wr => ∃ i x p L K, i ≤ R ∧ m = R - i ∧ v = .slice (some ⟨b, p, none⟩) L K ∧ Hid (LeftIs hs.length R C i off x p L K) ∧ Hid (Bld w1.heap.size (ltTo hs C i) wr) ∧ Below w.heap.size w wr ∧ wr.heap[w.heap.size]? = some (.cells #[.int .i64 (R : Int), .int .i64 (C : Int), .slice (some ⟨b, off, none⟩) hs.length k] 38 (0, 0)) ∧ w1.heap.size ≤ wr.heap.size)
    case atStart => exact ⟨0, 0, off, hs.length, k, Nat.zero_le _, rfl, rfl, HL0, HB0, bl_alloc HB1.out _, blk_old kx, by simp⟩
    case round =>
      clear HB0 HL0 kx x0 x1 x2
      obtain ⟨i, x, p, L, K, hi, hgk, rfl, HL, HBD, hb, kx, hz⟩ := hrel
      have HGK := Lib.hid hgk
      clear hgk
      obtain ⟨x0, x1, x2, xl⟩ := row_three kx
      by_cases hlt : i < R
      · obtain ⟨l1, l2, l3, l4, rfl⟩ := left_row HL.out hlt hC1
        have hl5 := HL.out.hK
        have hK0 : ¬ K = 0 := by omega
        have hrl := rw_len L0.out.2.2.2.2.2 (o := x) C (by omega)
        have htl := lt_len L0.out.2.2.2.2.2 HRC.out (by omega) i (by omega)
        have KJ := Lib.hid (joinNumbers_any wr b (off + x) K hs x C B (Nat.le_trans hBw hb.size) (HT.out.on (hb.mono hBw)) (Nat.lt_of_lt_of_le hbl hb.size) (fun j hj => by
          have := (hb.cell (p := ⟨b, off + (x + j), none⟩) hbl).trans (HCE.out (x + j) (by rw [ints_len]; omega))
          rw [ints_get _ _ (by omega)] at this
          rw [Nat.add_assoc]
          exact this) L0.out.2.2.2.2.2 (by omega) hC1 hC2)
        have HSZ : (Lib.byteCells (ltTo hs C i)).length + ((⟨(rwTo hs x C).toArray⟩ : ByteArray) ++ ⟨#[10]⟩).size ≤ 140737488355328 := by
          rw [bcat _ [10], Lib.byteCells_length]
          simp only [Lib.size_eq, List.length_append, List.length_cons, List.length_nil]
          omega
        have HLS := Lib.hid HSZ
        have n1 : ¬ 9223372036854775807 < (rwTo hs x C).length + 1 := by omega
        clear HSZ hrl htl
        by_cases hKC : K = C
        · obtain rfl : C = K := hKC.symm
          go_wp2_with (first | (go_at_call 63; refine KJ.out.mono ?_; rintro e w2 ⟨rfl, hb2⟩) | (go_at_call 62; refine (writeString_any w1.heap.size w1.heap.size (Lib.byteCells (ltTo hs C i)) _ _ (bld_bel HBD.out hb2) HLS.out (Nat.le_trans hz hb2.size)).mono ?_; rintro e w3 ⟨rfl, hBA, hb3⟩; have kx3 : w3.heap[w.heap.size]? = some (.cells #[.int .i64 (R : Int), .int .i64 (C : Int), .slice (some ⟨b, off, none⟩) hs.length k] 38 (0, 0)) := (hb3.block _ hw1).trans (keep_blk (hb := hb2) (h := kx)); obtain ⟨y0, y1, y2, yl⟩ := row_three kx3; have hb4 : Below w.heap.size w w3 := (bl_trans hb hb2).trans (hb3.mono (by omega)); have hz3 : w1.heap.size ≤ w3.heap.size := Nat.le_trans (Nat.le_trans hz hb2.size) hb3.size; have HBN : Hid (Bld w1.heap.size (ltTo hs C (i + 1)) w3) := Lib.hid (bld_row HL.out.hx hBA)))
          go_roundg (R - (i + 1))
          case measure => rw [HGK.out]; omega
          case rel => exact ⟨i + 1, x + C, off + x, L - C, C - C, by omega, rfl, by first | rfl | (simp; done) | (simp; omega), Lib.hid (left_next HL.out hlt hC1 (by omega)), HBN, hb4, kx3, hz3⟩
        · go_wp2_with (first | (go_at_call 63; refine KJ.out.mono ?_; rintro e w2 ⟨rfl, hb2⟩) | (go_at_call 62; refine (writeString_any w1.heap.size w1.heap.size (Lib.byteCells (ltTo hs C i)) _ _ (bld_bel HBD.out hb2) HLS.out (Nat.le_trans hz hb2.size)).mono ?_; rintro e w3 ⟨rfl, hBA, hb3⟩; have kx3 : w3.heap[w.heap.size]? = some (.cells #[.int .i64 (R : Int), .int .i64 (C : Int), .slice (some ⟨b, off, none⟩) hs.length k] 38 (0, 0)) := (hb3.block _ hw1).trans (keep_blk (hb := hb2) (h := kx)); obtain ⟨y0, y1, y2, yl⟩ := row_three kx3; have hb4 : Below w.heap.size w w3 := (bl_trans hb hb2).trans (hb3.mono (by omega)); have hz3 : w1.heap.size ≤ w3.heap.size := Nat.le_trans (Nat.le_trans hz hb2.size) hb3.size; have HBN : Hid (Bld w1.heap.size (ltTo hs C (i + 1)) w3) := Lib.hid (bld_row HL.out.hx hBA)))
          go_roundg (R - (i + 1))
          case measure => rw [HGK.out]; omega
          case rel => exact ⟨i + 1, x + C, off + (x + C), L - C, K - C, by omega, rfl, by first | rfl | simp [Nat.add_assoc], Lib.hid (left_next HL.out hlt hC1 (fun _ => rfl)), HBN, hb4, kx3, hz3⟩
      · obtain rfl : i = R := by omega
        obtain rfl := left_end HL.out hlt hi
        go_wp2_with (go_at_call 64; refine (Tryd.Builder_String_any w1.heap.size w1.heap.size _ wr HBD.out hz).mono ?_; rintro e w2 ⟨rfl, hb2⟩)
        go_ret
        exact ⟨by rw [H.out]; rfl, hb.trans (hb2.mono (by omega))⟩
end Go.Proofs.YtcjfdfjimcapkaaDoor
