/-
  Contract of the program's joining of numbers into one text. It holds for rows of at most 12 numbers that are levels, where a table of the library reads as it is laid.
-/
import Derived.Test.YtcjfdfjimcapkaaDoorDecImpl
import Derived.Test.YtcjfdfjimcapkaaDoorLtPlain
import Derived.Test.YtcjfdfjimcapkaaDoorHelp
import Derived.Test.YtcjfdfjimcapkaaDoorShelf3
namespace Go.Proofs.YtcjfdfjimcapkaaDoor
set_option linter.unusedVariables false
open Go.RowKit
def sV (l : List UInt8) : Value := .string ⟨l.toArray⟩
theorem own_beJ {w W : World} {B T n sz : Nat} {v : Value} {xs : List Value} (h : w.ownsRow B T sz v n xs) (hb : Below w.heap.size w W) : W.ownsRow B T sz v n xs := by
  refine ⟨h.1, ?_⟩
  rcases h.2 with hn | ⟨g, cap, cur, rfl, hB, hg, rest⟩
  · exact .inl hn
  · exact .inr ⟨g, cap, cur, rfl, hB, (hb.block g (Array.getElem?_eq_some_iff.1 hg).1).trans hg, rest⟩
theorem infoStr : (Tryd.prog.info? 9).map (fun i => (i.zero, i.size, i.bytes)) = some (some (.string ByteArray.empty), 1, 16) := by kernel_rfl
theorem app_oneS (l : List UInt8) : ∀ u ∈ [sV l], u.oneCell' = true := by
  intro u hu
  simp at hu
  subst hu
  rfl
theorem app_ownS {w1 : World} {B T n : Nat} {v' : Value} {ys : List (List UInt8)} {X : List UInt8} (hown' : w1.ownsRow B T 1 v' n (ys.map sV ++ [sV X])) : w1.ownsRow B T 1 v' n ((ys ++ [X]).map sV) := by
  simpa using hown'
theorem own_lits {w W : World} (T : TypeId) (hW : Below w.heap.size w W) : (W.alloc (.cells #[] T)).ownsRow w.heap.size T 1 (.slice (some ⟨W.heap.size, 0, none⟩) 0 0) 0 (([] : List (List UInt8)).map sV) := own_lit T hW
/-- a row of texts of the call's own, read -/
theorem own_texts {wr : World} {B T n : Nat} {v : Value} {xs : List (List UInt8)} (h : wr.ownsRow B T 1 v n (xs.map sV)) (h1 : 1 ≤ n) :
    ∃ g cap, v = .slice (some ⟨g, 0, none⟩) n cap ∧ B ≤ g ∧ g < wr.heap.size ∧ n ≤ cap ∧ ∀ (j : Nat) x, (xs.map fun l => (⟨l.toArray⟩ : ByteArray))[j]? = some x → wr.cell? ⟨g, 0 + j, none⟩ = some (.string x) := by
  rcases h.2 with ⟨_, h0⟩ | ⟨g, cap, cur, rfl, hb, hg, hn, hm, hs, ht⟩
  · omega
  · refine ⟨g, cap, rfl, hb, (Array.getElem?_eq_some_iff.1 hg).1, hn, fun j x hx => ?_⟩
    rw [List.getElem?_map] at hx
    rcases hj : xs[j]? with _ | l
    · rw [hj] at hx; simp at hx
    · rw [hj] at hx
      obtain rfl := Option.some.inj hx
      have hlen : xs.length = n := by have := h.1; simpa using this
      have hjl : j < n := by rw [← hlen]; exact (List.getElem?_eq_some_iff.1 hj).1
      rw [Nat.zero_add, cell_of_row wr g j cur T (0, 0) hg]
      have : (cur.toList.take (n * 1))[j]? = (xs.map sV)[j]? := by rw [ht]
      rw [List.getElem?_take, if_pos (by omega), List.getElem?_map, hj] at this
      have h9 : cur[j]? = some (sV l) := by simpa using this
      exact h9
theorem join_is (w : World) (hs : List Int) (o n g cap : Nat) (h1 : 1 ≤ n) (hn : n ≤ 12) (hl : (rwTo hs o n).length ≤ 22 * n) (hg : g < w.heap.size) (hcap : n ≤ cap) (hc : ∀ (j : Nat) x, ((txTo hs o n).map fun l => (⟨l.toArray⟩ : ByteArray))[j]? = some x → w.cell? ⟨g, 0 + j, none⟩ = some (.string x)) :
    Calls Tryd.prog 72 #[.slice (some ⟨g, 0, none⟩) n cap, .string ⟨#[32]⟩] w fun e w' => e = .returned (.string ⟨(rwTo hs o n).toArray⟩) ∧ Below w.heap.size w w' := by
  have hm : ((txTo hs o n).map fun l => (⟨l.toArray⟩ : ByteArray)).map (·.data.toList) = txTo hs o n := by
    rw [List.map_map]
    exact (List.map_congr_left (fun l _ => by simp)).trans (List.map_id _)
  have hxl : ((txTo hs o n).map fun l => (⟨l.toArray⟩ : ByteArray)).length = n := by rw [List.length_map, tx_len]
  have hj : Lib.join (txTo hs o n) (⟨#[32]⟩ : ByteArray).data.toList = rwTo hs o n := tx_join hs o n
  have := Tryd.strings_Join g 0 cap ((txTo hs o n).map fun l => (⟨l.toArray⟩ : ByteArray)) ⟨#[32]⟩ w hc hg (by rw [hxl]; omega) (by rw [hxl]; exact hcap) (by rw [hm, hj]; omega)
  rw [hxl, hm, hj] at this
  exact this
set_option maxRecDepth 100000 in
set_option maxHeartbeats 1600000 in
theorem joinNumbers_any (w : World) (b off c : Nat) (hs : List Int) (o n B : Nat) (hBw : B ≤ w.heap.size) (ht : PowTab B w) (hbl : b < w.heap.size) (hcell : ∀ i, i < n → w.cell? ⟨b, off + i, none⟩ = some (.int .i64 (gt hs (o + i)))) (hz : ∀ i, i < hs.length → -2000 ≤ gt hs i ∧ gt hs i ≤ 2000) (ho : o + n ≤ hs.length) (h1 : 1 ≤ n) (hn : n ≤ 12) :
    Calls Tryd.prog 63 #[.slice (some ⟨b, off, none⟩) n c, .string ⟨#[32]⟩] w fun e w' => e = .returned (.string ⟨(rwTo hs o n).toArray⟩) ∧ Below w.heap.size w w' := by
  have HT := Lib.hid ht
  have HC := Lib.hid hcell
  have HZ := Lib.hid hz
  clear ht hcell hz
  obtain ⟨i0, hi, hz0, hz1, hz2⟩ := info_parts infoStr
  go_enter Tryd.func63, Tryd.ntmps63
  go_wp2
  go_loopg [5, 11] n (fun m v i wr => ∃ k, k ≤ n ∧ m = n - k ∧ i = .int .i64 ((k : Nat) : Int) ∧ wr.ownsRow w.heap.size 9 1 v k ((txTo hs o k).map sV) ∧ Below w.heap.size w wr)
  case atStart => exact ⟨0, Nat.zero_le _, by omega, rfl, own_lits _ (Below.refl _ _), bl_alloc (Below.refl _ _) _⟩
  case round =>
    obtain ⟨k, hk, hgk, rfl, hown, hb⟩ := hrel
    have HGK := Lib.hid hgk
    clear hgk
    by_cases hlt : k < n
    · have f1 := (hb.cell (p := ⟨b, off + k, none⟩) hbl).trans (HC.out k hlt)
      have hbd := HZ.out (o + k) (by omega)
      have HP := Lib.hid (HT.out.on (hb.mono hBw))
      go_wp2_with (first | (go_at_call 51; refine (implDecimal _ (gt hs (o + k)) B HP.out (by omega) (by omega)).mono ?_; rintro e w' ⟨rfl, hbk⟩) | (at_builtin; refine wpList_append_own _ rfl _ _ 43 rfl w.heap.size 9 i0 (.string ByteArray.empty) 1 16 Tryd.underlying43 hi hz0 hz1 hz2 rfl (by decide) _ _ _ rfl ((own_beJ hown hbk).alloc _) ⟨w'.heap.size, 0, none⟩ 1 1 [sV (Lib.itoa (gt hs (o + k)))] rfl rfl (by first | exact app_news (heap_alloc_new _ _)) (app_oneS _) (by unfold maxLen; omega) (by omega) (by have := (bl_trans hb hbk).size; simp; omega) ?_; intro v' w1 hown' hgrow _))
      have R1 := Lib.hid (app_ownS hown')
      have R2 := Lib.hid (app_below (bl_alloc (bl_trans hb hbk) _) ((own_beJ hown hbk).alloc _) hgrow)
      go_roundg (n - (k + 1))
      case measure => rw [HGK.out]; omega
      case rel => exact ⟨k + 1, by omega, rfl, by go_num, R1.out, R2.out⟩
    · obtain rfl : k = n := by omega
      obtain ⟨g, cap, rfl, g1, g2, g3, g4⟩ := own_texts hown h1
      have KJ := Lib.hid (join_is wr hs o k g cap h1 hn (rw_len HZ.out k ho) g2 g3 g4)
      clear hown g4
      go_wp2_with (go_at_call 72; refine KJ.out.mono ?_; rintro e w2 ⟨rfl, hb2⟩)
      go_ret
      exact ⟨rfl, bl_trans hb hb2⟩
end Go.Proofs.YtcjfdfjimcapkaaDoor
