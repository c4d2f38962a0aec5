/-
  Contracts on the parts of a text: the reference's. They hold for every text of at most 1048576 bytes.
-/
import Derived.Test.YtfkleaagpflpkaaDoorNum
import Derived.Test.YtfkleaagpflpkaaDoorJoinN
import Derived.Test.YtfkleaagpflpkaaDoorSpPlain
namespace Go.Proofs.YtfkleaagpflpkaaDoor
set_option linter.unusedVariables false
open Go.RowKit
theorem app_oneV (s : ByteArray) : ∀ u ∈ [Value.string s], u.oneCell' = true := by
  intro u hu
  simp at hu
  subst hu
  rfl
theorem ext_sV (s : ByteArray) (f k : Nat) : Value.string (s.extract f k) = sV ((s.data.toList.take k).drop f) := by
  rw [sV, List.drop_take, ← Lib.extract_data, Lib.mk_data]
theorem ext_end (s : ByteArray) (f : Nat) : Value.string (s.extract f s.size) = sV (s.data.toList.drop f) := by
  rw [ext_sV]
  congr 2
  exact List.take_of_length_le (by rw [Lib.size_eq]; exact Nat.le_refl _)
/-- a row of texts of the call's own -/
def OwnS (w0 : World) (w : World) (v : Value) (xs : List (List UInt8)) : Prop := w.ownsRow w0.heap.size 9 1 v xs.length (xs.map sV)
theorem ownS_app {w0 w1 : World} {v' : Value} {xs : List (List UInt8)} {s : ByteArray} {l : List UInt8} (h : w1.ownsRow w0.heap.size 9 1 v' (xs.length + 1) (xs.map sV ++ [Value.string s])) (e : Value.string s = sV l) : OwnS w0 w1 v' (xs ++ [l]) := by
  rw [e] at h
  rw [OwnS, List.length_append, List.map_append]
  exact h
set_option maxRecDepth 100000 in
set_option maxHeartbeats 3200000 in
theorem l01Split_any (w : World) (s : ByteArray) (d : UInt8) (hm : s.size ≤ 1048576) :
    Calls Tryd.prog 42 #[.string s, .int .u8 (d.toNat : Int)] w fun e w' => ∃ v, e = .returned v ∧ OwnS w w' v (spl d s.data.toList) ∧ v ≠ .slice none 0 0 ∧ Below w.heap.size w w' := by
  obtain ⟨i0, hi, hz0, hz1, hz2⟩ := info_parts infoStr
  go_enter Tryd.func42, Tryd.ntmps42
  go_wp2
  go_loopg [5, 6, 7] s.size (fun m v fv iv wr => ∃ (k f : Nat) (P : List (List UInt8)), k ≤ s.size ∧ m = s.size - k ∧ fv = .int .i64 (f : Int) ∧ iv = .int .i64 (k : Int) ∧ f ≤ k ∧ P.length ≤ 1048576 ∧ Hid (SpIs d s.data.toList P f k) ∧ wr.ownsRow w.heap.size 9 1 v P.length (P.map sV) ∧ v ≠ .slice none 0 0 ∧ Below w.heap.size w wr)
  case atStart => exact ⟨0, 0, [], Nat.zero_le _, rfl, rfl, rfl, Nat.le_refl _, by simp, Lib.hid (sp_start _ _), own_lits _ (Below.refl _ _), by simp, bl_alloc (Below.refl _ _) _⟩
  case round =>
    obtain ⟨k, f, P, hk, hgk, rfl, rfl, hfk, hP, HS, hown, hvn, hb⟩ := hrel
    have HGK := Lib.hid hgk
    clear hgk
    by_cases hlt : k < s.size
    · obtain ⟨b, hgb, hbe⟩ := byt_get s k hlt
      have hx := byt_eq s k hlt
      by_cases hd : b = d
      · have HN := Lib.hid (sp_hit HS.out (by rw [hgb, hd]))
        have hq : (byt s k == (d.toNat : Int)) = true := by rw [hbe, hd]; simp
        clear hgb hbe hd
        go_wp2_with (at_builtin; refine wpList_append_own _ rfl _ _ 24 rfl w.heap.size 9 i0 (.string ByteArray.empty) 1 16 Tryd.underlying24 hi hz0 hz1 hz2 rfl (by decide) _ _ _ rfl (hown.alloc _) ⟨wr.heap.size, 0, none⟩ 1 1 [.string (s.extract f k)] rfl rfl (by first | exact app_news (heap_alloc_new _ _) | exact app_news (heap_alloc_new wr _)) (app_oneV _) (by have := hP; unfold maxLen; omega) (by have := hP; omega) (by have := hb.size; simp; omega) ?_; intro v' w1 hown' hgrow hne)
        have R1 : OwnS w w1 v' (P ++ [(s.data.toList.take k).drop f]) := ownS_app hown' (ext_sV s f k)
        have R2 : v' ≠ .slice none 0 0 := fun h => hvn (hne.1 h).1
        have R3 := app_below (bl_alloc hb _) (hown.alloc _) hgrow
        have hP2 := sp_len HN.out
        go_roundg (s.size - (k + 1))
        case measure => rw [HGK.out]; omega
        case rel => exact ⟨k + 1, k + 1, _, by omega, rfl, by go_num, by go_num, Nat.le_refl _, by rw [← Lib.size_eq] at hP2; omega, HN, R1, R2, R3⟩
      · have HN := Lib.hid (sp_miss HS.out hgb hd)
        have hq : (byt s k == (d.toNat : Int)) = false := by
          rw [hbe]
          have : b.toNat ≠ d.toNat := fun e => hd (UInt8.toNat_inj.1 e)
          simp
          omega
        clear hgb hbe hd
        go_wp2
        go_roundg (s.size - (k + 1))
        case measure => rw [HGK.out]; omega
        case rel => exact ⟨k + 1, f, P, by omega, rfl, rfl, by go_num, by omega, hP, HN, hown, hvn, hb⟩
    · obtain rfl : k = s.size := by omega
      have hse : s.data.toList.length = s.size := (Lib.size_eq s).symm
      have HE := Lib.hid (sp_end (P := P) (f := f) (by rw [hse]; exact HS.out))
      clear hse
      go_wp2_with (at_builtin; refine wpList_append_own _ rfl _ _ 24 rfl w.heap.size 9 i0 (.string ByteArray.empty) 1 16 Tryd.underlying24 hi hz0 hz1 hz2 rfl (by decide) _ _ _ rfl (hown.alloc _) ⟨wr.heap.size, 0, none⟩ 1 1 [.string (s.extract f s.size)] rfl rfl (by first | exact app_news (heap_alloc_new _ _) | exact app_news (heap_alloc_new wr _)) (app_oneV _) (by have := hP; unfold maxLen; omega) (by have := hP; omega) (by have := hb.size; simp; omega) ?_; intro v' w1 hown' hgrow hne)
      have R1 : OwnS w w1 v' (spl d s.data.toList) := by
        rw [← HE.out]
        exact ownS_app hown' (ext_end s f)
      have R2 : v' ≠ .slice none 0 0 := fun h => hvn (hne.1 h).1
      have R3 := app_below (bl_alloc hb _) (hown.alloc _) hgrow
      go_ret
      exact ⟨_, rfl, R1, R2, R3⟩
theorem own_wide {w : World} {B B' T n sz : Nat} {v : Value} {xs : List Value} (h : w.ownsRow B T sz v n xs) (hB : B' ≤ B) : w.ownsRow B' T sz v n xs := by
  refine ⟨h.1, ?_⟩
  rcases h.2 with hn | ⟨g, cap, cur, rfl, hb, rest⟩
  · exact .inl hn
  · exact .inr ⟨g, cap, cur, rfl, Nat.le_trans hB hb, rest⟩
/-- a row of texts, read -/
theorem own_row {w0 wr : World} {g c n : Nat} {xs : List (List UInt8)} (h : wr.ownsRow w0.heap.size 9 1 (.slice (some ⟨g, 0, none⟩) n c) n (xs.map sV)) : g < wr.heap.size ∨ xs = [] := by
  rcases h.2 with ⟨hv, _⟩ | ⟨g', cap, cur, hv, hb, hg, _⟩
  · cases hv
  · cases hv
    exact .inl (Array.getElem?_eq_some_iff.1 hg).1
theorem own_cell {w0 wr : World} {g c n : Nat} {xs : List (List UInt8)} (h : wr.ownsRow w0.heap.size 9 1 (.slice (some ⟨g, 0, none⟩) n c) n (xs.map sV)) (j : Nat) (x : List UInt8) (hx : xs[j]? = some x) : wr.cell? ⟨g, j, none⟩ = some (sV x) := by
  have h1 := h.cells (g := g) rfl j (sV x) (by rw [List.getElem?_map, hx]; rfl)
  by_cases e : j = 0
  · subst e; simpa [Addr.add] using h1
  · simpa [Addr.add, e] using h1
def wdsTo (l : List UInt8) (k : Nat) : List (List UInt8) := ((spl 32 l).take k).filter (fun x => !x.isEmpty)
theorem wds_no {l : List UInt8} {k : Nat} (h : (spl 32 l)[k]? = some []) : wdsTo l (k + 1) = wdsTo l k := by
  rw [wdsTo, wdsTo, List.take_add_one, h, List.filter_append]
  simp
theorem wds_yes {l : List UInt8} {k : Nat} {c : UInt8} {r : List UInt8} (h : (spl 32 l)[k]? = some (c :: r)) : wdsTo l (k + 1) = wdsTo l k ++ [c :: r] := by
  rw [wdsTo, wdsTo, List.take_add_one, h, List.filter_append]
  simp
theorem wds_all (l : List UInt8) : wdsTo l (spl 32 l).length = wds l := by rw [wdsTo, List.take_length, wds]
theorem wdsTo_len (l : List UInt8) (k : Nat) : (wdsTo l k).length ≤ k := by
  have h1 := List.length_filter_le (fun x : List UInt8 => !x.isEmpty) ((spl 32 l).take k)
  rw [List.length_take] at h1
  rw [wdsTo]
  omega
/-- a call that makes a new list of texts -/
def NewTexts (xs : List (List UInt8)) (w : World) (e : Ending) (w' : World) : Prop := ∃ v, e = .returned v ∧ OwnS w w' v xs ∧ v ≠ .slice none 0 0 ∧ Below w.heap.size w w'
set_option maxRecDepth 100000 in
set_option maxHeartbeats 3200000 in
theorem specWords (w : World) (s : ByteArray) (hm : s.size ≤ 1048576) : Calls Tryd.prog 14 #[.string s] w (NewTexts (wds s.data.toList) w) := by
  obtain ⟨i0, hi, hz0, hz1, hz2⟩ := info_parts infoStr
  have KS := Lib.hid (l01Split_any w s 32 hm)
  have hnl : (spl 32 s.data.toList).length ≤ 1048577 := by
    have := spl_len 32 s.data.toList
    rw [← Lib.size_eq] at this
    omega
  go_enter Tryd.func14, Tryd.ntmps14
  go_wp2_with (go_at_call 42; refine KS.out.mono ?_; rintro e w2 ⟨v2, rfl, hO2, hv2, hb2⟩; obtain ⟨g, c, rfl⟩ := own_form hO2 hv2)
  have HO := Lib.hid hO2
  clear hO2 hv2
  go_loopg [4, 5] (spl 32 s.data.toList).length (fun m v iv wr => ∃ k, k ≤ (spl 32 s.data.toList).length ∧ m = (spl 32 s.data.toList).length - k ∧ iv = .int .i64 ((k : Nat) : Int) ∧ wr.ownsRow w2.heap.size 9 1 v (wdsTo s.data.toList k).length ((wdsTo s.data.toList k).map sV) ∧ v ≠ .slice none 0 0 ∧ Below w2.heap.size w2 wr)
  case atStart => exact ⟨0, Nat.zero_le _, rfl, rfl, own_lits _ (Below.refl _ _), by simp, bl_alloc (Below.refl _ _) _⟩
  case round =>
    obtain ⟨k, hk, hgk, rfl, hown, hvn, hb⟩ := hrel
    have HGK := Lib.hid hgk
    clear hgk
    have hwl := wdsTo_len s.data.toList k
    by_cases hlt : k < (spl 32 s.data.toList).length
    · obtain ⟨x, hx⟩ : ∃ x, (spl 32 s.data.toList)[k]? = some x := ⟨_, List.getElem?_eq_getElem hlt⟩
      have hgl : g < w2.heap.size := by
        rcases own_row HO.out with h | h
        · exact h
        · exact absurd h (spl_ne _ _)
      have f1 : wr.cell? ⟨g, k, none⟩ = some (sV x) := (hb.cell (p := ⟨g, k, none⟩) hgl).trans (own_cell HO.out k x hx)
      rw [sV] at f1
      cases x with
      | nil =>
        have HN := Lib.hid (wds_no hx)
        clear hx
        go_wp2
        go_roundg ((spl 32 s.data.toList).length - (k + 1))
        case measure => rw [HGK.out]; omega
        case rel => exact ⟨k + 1, by omega, rfl, by go_num, by rw [HN.out]; exact hown, hvn, hb⟩
      | cons a r =>
        have HN := Lib.hid (wds_yes hx)
        clear hx
        go_wp2_with (at_builtin; refine wpList_append_own _ rfl _ _ 24 rfl w2.heap.size 9 i0 (.string ByteArray.empty) 1 16 Tryd.underlying24 hi hz0 hz1 hz2 rfl (by decide) _ _ _ rfl (hown.alloc _) ⟨wr.heap.size, 0, none⟩ 1 1 [sV (a :: r)] rfl rfl (by first | exact app_news (heap_alloc_new _ _) | exact app_news (heap_alloc_new wr _)) (app_oneV _) (by have := hwl; unfold maxLen; omega) (by have := hwl; omega) (by have := hb.size; simp; omega) ?_; intro v' w1 hown' hgrow hne)
        have R1 : w1.ownsRow w2.heap.size 9 1 v' (wdsTo s.data.toList (k + 1)).length ((wdsTo s.data.toList (k + 1)).map sV) := by
          rw [HN.out]
          exact ownS_app (w0 := w2) hown' rfl
        have R2 : v' ≠ .slice none 0 0 := fun h => hvn (hne.1 h).1
        have R3 := app_below (bl_alloc hb _) (hown.alloc _) hgrow
        go_roundg ((spl 32 s.data.toList).length - (k + 1))
        case measure => rw [HGK.out]; omega
        case rel => exact ⟨k + 1, by omega, rfl, by go_num, R1, R2, R3⟩
    · obtain rfl : k = (spl 32 s.data.toList).length := by omega
      rw [wds_all] at hown
      have R1 := own_wide hown hb2.size
      clear hown
      go_wp2
      go_ret
      exact ⟨_, rfl, R1, hvn, bl_trans hb2 hb⟩
end Go.Proofs.YtfkleaagpflpkaaDoor
