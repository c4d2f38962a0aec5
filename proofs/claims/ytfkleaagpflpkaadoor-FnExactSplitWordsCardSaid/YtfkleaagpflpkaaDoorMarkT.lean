/-
  Contracts of the laws' marks on lists of texts.
-/
import Derived.Test.YtfkleaagpflpkaaDoorSplit
import Derived.Test.YtfkleaagpflpkaaDoorDec
import Derived.Deep.RegionHeld3
import Derived.Deep.QuietTactic
namespace Go.Proofs.YtfkleaagpflpkaaDoor
set_option linter.unusedVariables false
open Go.RowKit
/-- the mark of number k -/
def mkT (k : Nat) : List UInt8 := 109 :: decD k
set_option maxRecDepth 100000 in
set_option maxHeartbeats 3200000 in
theorem markText_any (w : World) (K : Nat) (h1 : 1 ≤ K) (hK : K ≤ 1099511627776) :
    Calls Tryd.prog 44 #[.int .i64 (K : Int)] w fun e w' => e = .returned (.string ⟨(mkT K).toArray⟩) ∧ Below w.heap.size w w' := by
  have hK1 : ¬ (K : Int) ≤ 0 := by omega
  go_enter Tryd.func44, Tryd.ntmps44
  go_wp2
  go_loopg [0, 3] K (fun m n t wr => ∃ (M : Nat) (l : List UInt8), m = M ∧ n = .int .i64 (M : Int) ∧ t = .string ⟨l.toArray⟩ ∧ M ≤ 1099511627776 ∧ Hid (decD M ++ l = decD K) ∧ l.length ≤ 20 ∧ Below w.heap.size w wr)
  case atStart => exact ⟨K, [], rfl, rfl, rfl, hK, Lib.hid (by simp), by simp, Below.refl _ _⟩
  case round =>
    obtain ⟨M, l, hgk, rfl, rfl, hM, HL, hl, hb⟩ := hrel
    have HGK := Lib.hid hgk
    clear hgk
    by_cases h0 : M = 0
    · subst h0
      have hd : l = decD K := by have := HL.out; rw [decD_zero] at this; exact this
      have HD := Lib.hid hd
      clear hd
      have n1 : ¬ 9223372036854775807 < 1 + l.length := by omega
      go_wp2
      go_ret
      exact ⟨by rw [mkT, ← HD.out]; rfl, hb⟩
    · obtain ⟨bt, hbt⟩ : ∃ bt, bt = UInt8.ofNat (48 + M % 10) := ⟨_, rfl⟩
      have hb8 : (bt.toNat : Int) = 48 + (M : Int) % 10 := by rw [hbt]; exact dec_byte M
      have hs0 := decD_next h0 HL.out
      rw [← hbt] at hs0
      have HS := Lib.hid hs0
      clear hs0 hbt
      have hls : l.length + 1 ≤ 20 := by
        have h := congrArg List.length HS.out
        have h2 := decD_len (m := K) (by omega)
        simp only [List.length_append, List.length_cons] at h
        omega
      have hM0 : (0 : Int) < (M : Int) := by omega
      clear h0
      have hcv := run_convert_bytes_back (P := Tryd.prog) (wr.alloc (.cells #[.int .u8 (48 + (M : Int) % 10)] 5)) 85 9 5 ⟨wr.heap.size, 0, none⟩ 1 [bt] Tryd.underlying85 Tryd.underlying5 Tryd.underlying9 (fun j hj => by
        obtain rfl : j = 0 := by simpa using hj
        exact app_news (heap_alloc_new wr _) 0 _ (by rw [← hb8]; rfl))
      rw [show ([bt] : List UInt8).length = 1 from rfl] at hcv
      have n1 : ¬ 9223372036854775807 < 1 + l.length := by omega
      clear hb8
      go_wp2
      go_roundg (M / 10)
      case measure => rw [HGK.out]; omega
      case rel => exact ⟨M / 10, _, rfl, by go_num, by simp only [ByteArray.mk_append_mk]; rfl, by omega, HS, by simpa using hls, bl_alloc hb _⟩
theorem dr_add (w : World) (a b : Nat) : (w.drewN a).drewN b = w.drewN (a + b) := by simp [World.drewN, Nat.add_assoc]
/-- a row of texts at a block, read -/
def RowT (w : World) (g : Nat) (xs : List (List UInt8)) : Prop := g < w.heap.size ∧ ∀ j x, xs[j]? = some x → w.cell? ⟨g, j, none⟩ = some (sV x)
theorem RowT.below {w W : World} {g : Nat} {xs : List (List UInt8)} (h : RowT w g xs) (hb : Below w.heap.size w W) : RowT W g xs :=
  ⟨Nat.lt_of_lt_of_le h.1 hb.size, fun j x hx => (hb.cell (p := ⟨g, j, none⟩) h.1).trans (h.2 j x hx)⟩
theorem RowT.drewN {w : World} {g : Nat} {xs : List (List UInt8)} (h : RowT w g xs) (d : Nat) : RowT (w.drewN d) g xs := h
/-- the marks from k on -/
def mks (k n : Nat) : List (List UInt8) := (List.range n).map fun j => mkT (k + j)
theorem mks_len (k n : Nat) : (mks k n).length = n := by simp [mks]
theorem mks_get {k n j : Nat} (h : j < n) : (mks k n)[j]? = some (mkT (k + j)) := by simp [mks, h]
set_option maxHeartbeats 3200000 in
theorem eqTexts (w : World) (g g' c c' : Nat) (xs : List (List UInt8)) (h : RowT w g xs) (h' : RowT w g' xs) (hm : xs.length ≤ 1048577) :
    Calls Tryd.prog 16 #[.slice (some ⟨g, 0, none⟩) xs.length c, .slice (some ⟨g', 0, none⟩) xs.length c'] w fun e w' => e = .returned (.bool true) ∧ ∃ d, w' = w.drewN d := by
  have H := Lib.hid h
  have H' := Lib.hid h'
  clear h h'
  go_enter Tryd.func16, Tryd.ntmps16
  go_wp2
  go_loopg [5] xs.length (fun m iv wr => ∃ j d, j ≤ xs.length ∧ m = xs.length - j ∧ iv = .int .i64 ((j : Nat) : Int) ∧ wr = w.drewN d)
  case atStart => exact ⟨0, 0, Nat.zero_le _, rfl, rfl, rfl⟩
  case round =>
    obtain ⟨j, d, hj, hgk, rfl, hw⟩ := hrel
    have HGK := Lib.hid hgk
    have HW := Lib.hid hw
    clear hgk hw
    by_cases hlt : j < xs.length
    · obtain ⟨x, hx⟩ : ∃ x, xs[j]? = some x := ⟨_, List.getElem?_eq_getElem hlt⟩
      have f1 : wr.cell? ⟨g, j, none⟩ = some (sV x) := by rw [HW.out]; exact H.out.2 j x hx
      have f2 : wr.cell? ⟨g', j, none⟩ = some (sV x) := by rw [HW.out]; exact H'.out.2 j x hx
      rw [sV] at f1 f2
      clear hx
      go_wp2
      go_quiet (fail)
      go_wp2
      go_roundg (xs.length - (j + 1))
      case measure => rw [HGK.out]; omega
      case rel => exact ⟨j + 1, d + nq, by omega, rfl, by go_num, by rw [HW.out]; exact dr_add _ _ _⟩
    · go_wp2
      go_ret
      exact ⟨rfl, d, HW.out⟩
theorem mark_step {wr w' : World} {g j k : Nat} {cur : Array Value} {T : TypeId} (hg : wr.heap[g]? = some (.cells cur T (0, 0))) (hb : Below wr.heap.size wr w') : w'.heap[g]? = some (.cells cur T (0, 0)) :=
  (hb.block g (Array.getElem?_eq_some_iff.1 hg).1).trans hg
set_option maxHeartbeats 3200000 in
theorem markTexts (w : World) (g c n k : Nat) (cur0 : Array Value) (T : TypeId) (hg0 : w.heap[g]? = some (.cells cur0 T (0, 0))) (hs0 : n ≤ cur0.size) (hk : 1 ≤ k) (hkm : k ≤ 1048576) (hm : n ≤ 1048577) :
    Calls Tryd.prog 17 #[.slice (some ⟨g, 0, none⟩) n c, .int .i64 (k : Int)] w fun e w' => e = .returned (.int .i64 ((k + n : Nat) : Int)) ∧ RowT w' g (mks k n) ∧ w.heap.size ≤ w'.heap.size ∧ (∀ b, b ≠ g → b < w.heap.size → w'.heap[b]? = w.heap[b]?) ∧ Below g w w' := by
  have hgl := (Array.getElem?_eq_some_iff.1 hg0).1
  have HG0 := Lib.hid hg0
  clear hg0
  go_enter Tryd.func17, Tryd.ntmps17
  go_wp2
  go_loopg [1, 5] n (fun m kv iv wr => ∃ j cur, j ≤ n ∧ m = n - j ∧ kv = .int .i64 ((k + j : Nat) : Int) ∧ iv = .int .i64 ((j : Nat) : Int) ∧ wr.heap[g]? = some (.cells cur T (0, 0)) ∧ n ≤ cur.size ∧ Hid (∀ t, t < j → cur[t]? = some (sV (mkT (k + t)))) ∧ w.heap.size ≤ wr.heap.size ∧ Hid (∀ b, b ≠ g → b < w.heap.size → wr.heap[b]? = w.heap[b]?) ∧ Below g w wr)
  case atStart => exact ⟨0, cur0, Nat.zero_le _, rfl, rfl, rfl, HG0.out, hs0, Lib.hid (fun t ht => absurd ht (by omega)), Nat.le_refl _, Lib.hid (fun _ _ _ => rfl), Below.refl _ _⟩
  case round =>
    obtain ⟨j, cur, hj, hgk, rfl, rfl, hg, hs, HC, hz, HO, hb⟩ := hrel
    have HGK := Lib.hid hgk
    clear hgk
    by_cases hlt : j < n
    · have HG := Lib.hid hg
      clear hg
      go_wp2_with (go_at_call 44; refine (markText_any _ (k + j) (by omega) (by omega)).mono ?_; rintro e w' ⟨rfl, hb2⟩; have hg2 := mark_step (j := j) (k := k) HG.out hb2; have f1 : w'.cell? ⟨g, j, none⟩ = cur[j]? := cell_of_row w' g j cur T (0, 0) hg2; rw [Array.getElem?_eq_getElem (by omega)] at f1; have f2 : w'.frozen? ⟨g, j, none⟩ = false := frozen_of_row w' g j cur T hg2)
      have R1 : (w'.setCell ⟨g, j, none⟩ (sV (mkT (k + j)))).heap[g]? = some (.cells (cur.setIfInBounds j (sV (mkT (k + j)))) T (0, 0)) := heap_setCell_same w' g j cur T _ hg2
      have R2 : Hid (∀ t, t < j + 1 → (cur.setIfInBounds j (sV (mkT (k + j))))[t]? = some (sV (mkT (k + t)))) := Lib.hid (fun t ht => by
        by_cases e : t = j
        · subst e; simp [show t < cur.size by omega]
        · rw [Array.getElem?_setIfInBounds_ne (by omega)]; exact HC.out t (by omega))
      have R3 : Hid (∀ b, b ≠ g → b < w.heap.size → (w'.setCell ⟨g, j, none⟩ (sV (mkT (k + j)))).heap[b]? = w.heap[b]?) := Lib.hid (fun b h1 h2 => by
        rw [Below.heap_setCell w' ⟨g, j, none⟩ _ b h1, hb2.block b (by omega)]
        exact HO.out b h1 h2)
      have R4 : Below g w (w'.setCell ⟨g, j, none⟩ (sV (mkT (k + j)))) := (hb.trans (hb2.mono (by have := hb.size; omega))).setCell (p := ⟨g, j, none⟩) (Nat.le_refl _) _
      have R5 : w.heap.size ≤ (w'.setCell ⟨g, j, none⟩ (sV (mkT (k + j)))).heap.size := by have := hb2.size; simp; omega
      go_roundg (n - (j + 1))
      case measure => rw [HGK.out]; omega
      case rel => exact ⟨j + 1, _, by omega, rfl, by go_num, by go_num, R1, by simpa using hs, R2, R5, R3, R4⟩
    · obtain rfl : j = n := by omega
      have R : RowT wr g (mks k j) := ⟨(Array.getElem?_eq_some_iff.1 hg).1, fun t x hx => by
        have ht : t < j := by have := (List.getElem?_eq_some_iff.1 hx).1; rwa [mks_len] at this
        rw [mks_get ht] at hx
        obtain rfl := Option.some.inj hx
        rw [cell_of_row wr g t cur T (0, 0) hg]
        exact HC.out t ht⟩
      clear hg
      go_wp2
      go_ret
      exact ⟨rfl, R, hz, HO.out, hb⟩
theorem markText_sum (w : World) (k j : Nat) (h1 : 1 ≤ k + j) (hK : k + j ≤ 1099511627776) :
    Calls Tryd.prog 44 #[.int .i64 ((k : Int) + (j : Int))] w fun e w' => e = .returned (.string ⟨(mkT (k + j)).toArray⟩) ∧ Below w.heap.size w w' := by
  have h := markText_any w (k + j) h1 hK
  rw [show ((k + j : Nat) : Int) = (k : Int) + (j : Int) by omega] at h
  exact h
set_option maxHeartbeats 3200000 in
theorem heldTexts (w : World) (g c n k : Nat) (h : RowT w g (mks k n)) (hk : 1 ≤ k) (hkm : k ≤ 1048576) (hm : n ≤ 1048577) :
    Calls Tryd.prog 18 #[.slice (some ⟨g, 0, none⟩) n c, .int .i64 (k : Int)] w fun e w' => e = .returned (.int .i64 ((k + n : Nat) : Int)) ∧ Below w.heap.size w w' := by
  have H := Lib.hid h
  clear h
  go_enter Tryd.func18, Tryd.ntmps18
  go_wp2
  go_loopg [1, 5] n (fun m kv iv wr => ∃ j, j ≤ n ∧ m = n - j ∧ kv = .int .i64 ((k + j : Nat) : Int) ∧ iv = .int .i64 ((j : Nat) : Int) ∧ Below w.heap.size w wr)
  case atStart => exact ⟨0, Nat.zero_le _, rfl, rfl, rfl, Below.refl _ _⟩
  case round =>
    obtain ⟨j, hj, hgk, rfl, rfl, hb⟩ := hrel
    have HGK := Lib.hid hgk
    clear hgk
    by_cases hlt : j < n
    · have f1 : wr.cell? ⟨g, j, none⟩ = some (sV (mkT (k + j))) := (H.out.below hb).2 j _ (mks_get hlt)
      have hgl := (H.out.below hb).1
      rw [sV] at f1
      go_wp2
      go_region_held3 (fun w' => w'.cell? ⟨g, j, none⟩ = some (.string ⟨(mkT (k + j)).toArray⟩)) (repeat (first | with_reducible assumption | with_reducible refine kc_drew ?_ | with_reducible refine kc_drewN ?_ | with_reducible refine kc_alloc ?_ | with_reducible refine kc_set ?_ (by first | omega | (simp; done) | (simp; omega)))) (first | (go_at_call 44; with_reducible refine (markText_sum _ k j (by omega) (by omega)).mono ?_; rintro e w2 ⟨rfl, hb2⟩; have s2 : Below wr.heap.size wr w2 := (by repeat (first | exact Below.refl _ _ | assumption | apply bl_alloc | apply bl_drewN | apply Below.drew | (refine bl_set ?_ (by first | exact Nat.le_refl _ | (simp; done) | (simp; omega)) _) | (refine bl_trans ?_ (by assumption)))); have s3 : Below w.heap.size w w2 := bl_trans hb s2; have r2 := (s2.cell (p := ⟨g, j, none⟩) hgl).trans f1) | fail)
      go_wp2
      go_roundg (n - (j + 1))
      case measure => rw [HGK.out]; omega
      case rel => exact ⟨j + 1, by omega, rfl, by go_num, by go_num, by repeat (first | exact Below.refl _ _ | assumption | apply bl_alloc | apply bl_drewN | apply Below.drew | (refine bl_set ?_ (by first | exact Nat.le_refl _ | (simp; done) | (simp; omega)) _) | (refine bl_trans ?_ (by assumption)))⟩
    · obtain rfl : j = n := by omega
      go_wp2
      go_ret
      exact ⟨rfl, hb⟩
end Go.Proofs.YtfkleaagpflpkaaDoor
