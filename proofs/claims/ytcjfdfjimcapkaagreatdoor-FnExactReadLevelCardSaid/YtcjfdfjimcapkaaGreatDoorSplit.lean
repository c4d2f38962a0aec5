/-
  Contracts on the parts of a text: the reference's. They hold for every text of at most 1048576 bytes.
-/
import Derived.Test.YtcjfdfjimcapkaaGreatDoorNum
import Derived.Test.YtcjfdfjimcapkaaGreatDoorJoinN
import Derived.Test.YtcjfdfjimcapkaaGreatDoorSpPlain
namespace Go.Proofs.YtcjfdfjimcapkaaGreatDoor
set_option linter.unusedVariables false
open Go.RowKit
theorem app_oneV (s : ByteArray) : ∀ u ∈ [Value.string s], u.oneCell' = true := by
  intro u hu
  simp at hu
  subst hu
  rfl
theorem ext_sV (s : ByteArray) (f k : Nat) : Value.string (s.extract f k) = sV ((s.data.toList.take k).drop f) := by
  rw [sV, List.drop_take, ← Lib.extract_data, Lib.mk_data]
theorem ext_end (s : ByteArray) (f : Nat) : Value.string (s.extract f s.size) = sV (s.data.toList.drop f) := by
  rw [ext_sV]
  congr 2
  exact List.take_of_length_le (by rw [Lib.size_eq]; exact Nat.le_refl _)
/-- a row of texts of the call's own -/
def OwnS (w0 : World) (w : World) (v : Value) (xs : List (List UInt8)) : Prop := w.ownsRow w0.heap.size 9 1 v xs.length (xs.map sV)
theorem ownS_app {w0 w1 : World} {v' : Value} {xs : List (List UInt8)} {s : ByteArray} {l : List UInt8} (h : w1.ownsRow w0.heap.size 9 1 v' (xs.length + 1) (xs.map sV ++ [Value.string s])) (e : Value.string s = sV l) : OwnS w0 w1 v' (xs ++ [l]) := by
  rw [e] at h
  rw [OwnS, List.length_append, List.map_append]
  exact h
set_option maxRecDepth 100000 in
set_option maxHeartbeats 3200000 in
theorem l01Split_any (w : World) (s : ByteArray) (d : UInt8) (hm : s.size ≤ 1048576) :
    Calls Tryz.prog 6 #[.string s, .int .u8 (d.toNat : Int)] w fun e w' => ∃ v, e = .returned v ∧ OwnS w w' v (spl d s.data.toList) ∧ v ≠ .slice none 0 0 ∧ Below w.heap.size w w' := by
  obtain ⟨i0, hi, hz0, hz1, hz2⟩ := info_parts infoStr
  go_enter Tryz.func6, Tryz.ntmps6
  go_wp2
  go_loopg [5, 6, 7] s.size (fun m v fv iv wr => ∃ (k f : Nat) (P : List (List UInt8)), k ≤ s.size ∧ m = s.size - k ∧ fv = .int .i64 (f : Int) ∧ iv = .int .i64 (k : Int) ∧ f ≤ k ∧ P.length ≤ 1048576 ∧ Hid (SpIs d s.data.toList P f k) ∧ wr.ownsRow w.heap.size 9 1 v P.length (P.map sV) ∧ v ≠ .slice none 0 0 ∧ Below w.heap.size w wr)
  case atStart => exact ⟨0, 0, [], Nat.zero_le _, rfl, rfl, rfl, Nat.le_refl _, by simp, Lib.hid (sp_start _ _), own_lits _ (Below.refl _ _), by simp, bl_alloc (Below.refl _ _) _⟩
  case round =>
    obtain ⟨k, f, P, hk, hgk, rfl, rfl, hfk, hP, HS, hown, hvn, hb⟩ := hrel
    have HGK := Lib.hid hgk
    clear hgk
    by_cases hlt : k < s.size
    · obtain ⟨b, hgb, hbe⟩ := byt_get s k hlt
      have hx := byt_eq s k hlt
      by_cases hd : b = d
      · have HN := Lib.hid (sp_hit HS.out (by rw [hgb, hd]))
        have hq : (byt s k == (d.toNat : Int)) = true := by rw [hbe, hd]; simp
        clear hgb hbe hd
        go_wp2_with (at_builtin; refine wpList_append_own _ rfl _ _ 25 rfl w.heap.size 9 i0 (.string ByteArray.empty) 1 16 Tryz.underlying25 hi hz0 hz1 hz2 rfl (by decide) _ _ _ rfl (hown.alloc _) ⟨wr.heap.size, 0, none⟩ 1 1 [.string (s.extract f k)] rfl rfl (by first | exact app_news (heap_alloc_new _ _) | exact app_news (heap_alloc_new wr _)) (app_oneV _) (by have := hP; unfold maxLen; omega) (by have := hP; omega) (by have := hb.size; simp; omega) ?_; intro v' w1 hown' hgrow hne)
        have R1 : OwnS w w1 v' (P ++ [(s.data.toList.take k).drop f]) := ownS_app hown' (ext_sV s f k)
        have R2 : v' ≠ .slice none 0 0 := fun h => hvn (hne.1 h).1
        have R3 := app_below (bl_alloc hb _) (hown.alloc _) hgrow
        have hP2 := sp_len HN.out
        go_roundg (s.size - (k + 1))
        case measure => rw [HGK.out]; omega
        case rel => exact ⟨k + 1, k + 1, _, by omega, rfl, by go_num, by go_num, Nat.le_refl _, by rw [← Lib.size_eq] at hP2; omega, HN, R1, R2, R3⟩
      · have HN := Lib.hid (sp_miss HS.out hgb hd)
        have hq : (byt s k == (d.toNat : Int)) = false := by
          rw [hbe]
          have : b.toNat ≠ d.toNat := fun e => hd (UInt8.toNat_inj.1 e)
          simp
          omega
        clear hgb hbe hd
        go_wp2
        go_roundg (s.size - (k + 1))
        case measure => rw [HGK.out]; omega
        case rel => exact ⟨k + 1, f, P, by omega, rfl, rfl, by go_num, by omega, hP, HN, hown, hvn, hb⟩
    · obtain rfl : k = s.size := by omega
      have hse : s.data.toList.length = s.size := (Lib.size_eq s).symm
      have HE := Lib.hid (sp_end (P := P) (f := f) (by rw [hse]; exact HS.out))
      clear hse
      go_wp2_with (at_builtin; refine wpList_append_own _ rfl _ _ 25 rfl w.heap.size 9 i0 (.string ByteArray.empty) 1 16 Tryz.underlying25 hi hz0 hz1 hz2 rfl (by decide) _ _ _ rfl (hown.alloc _) ⟨wr.heap.size, 0, none⟩ 1 1 [.string (s.extract f s.size)] rfl rfl (by first | exact app_news (heap_alloc_new _ _) | exact app_news (heap_alloc_new wr _)) (app_oneV _) (by have := hP; unfold maxLen; omega) (by have := hP; omega) (by have := hb.size; simp; omega) ?_; intro v' w1 hown' hgrow hne)
      have R1 : OwnS w w1 v' (spl d s.data.toList) := by
        rw [← HE.out]
        exact ownS_app hown' (ext_end s f)
      have R2 : v' ≠ .slice none 0 0 := fun h => hvn (hne.1 h).1
      have R3 := app_below (bl_alloc hb _) (hown.alloc _) hgrow
      go_ret
      exact ⟨_, rfl, R1, R2, R3⟩
theorem own_wide {w : World} {B B' T n sz : Nat} {v : Value} {xs : List Value} (h : w.ownsRow B T sz v n xs) (hB : B' ≤ B) : w.ownsRow B' T sz v n xs := by
  refine ⟨h.1, ?_⟩
  rcases h.2 with hn | ⟨g, cap, cur, rfl, hb, rest⟩
  · exact .inl hn
  · exact .inr ⟨g, cap, cur, rfl, Nat.le_trans hB hb, rest⟩
/-- a row of texts, read -/
theorem own_row {w0 wr : World} {g c n : Nat} {xs : List (List UInt8)} (h : wr.ownsRow w0.heap.size 9 1 (.slice (some ⟨g, 0, none⟩) n c) n (xs.map sV)) : g < wr.heap.size ∨ xs = [] := by
  rcases h.2 with ⟨hv, _⟩ | ⟨g', cap, cur, hv, hb, hg, _⟩
  · cases hv
  · cases hv
    exact .inl (Array.getElem?_eq_some_iff.1 hg).1
theorem own_cell {w0 wr : World} {g c n : Nat} {xs : List (List UInt8)} (h : wr.ownsRow w0.heap.size 9 1 (.slice (some ⟨g, 0, none⟩) n c) n (xs.map sV)) (j : Nat) (x : List UInt8) (hx : xs[j]? = some x) : wr.cell? ⟨g, j, none⟩ = some (sV x) := by
  have h1 := h.cells (g := g) rfl j (sV x) (by rw [List.getElem?_map, hx]; rfl)
  by_cases e : j = 0
  · subst e; simpa [Addr.add] using h1
  · simpa [Addr.add, e] using h1
def wdsTo (l : List UInt8) (k : Nat) : List (List UInt8) := ((spl 32 l).take k).filter (fun x => !x.isEmpty)
theorem wds_no {l : List UInt8} {k : Nat} (h : (spl 32 l)[k]? = some []) : wdsTo l (k + 1) = wdsTo l k := by
  rw [wdsTo, wdsTo, List.take_add_one, h, List.filter_append]
  simp
theorem wds_yes {l : List UInt8} {k : Nat} {c : UInt8} {r : List UInt8} (h : (spl 32 l)[k]? = some (c :: r)) : wdsTo l (k + 1) = wdsTo l k ++ [c :: r] := by
  rw [wdsTo, wdsTo, List.take_add_one, h, List.filter_append]
  simp
theorem wds_all (l : List UInt8) : wdsTo l (spl 32 l).length = wds l := by rw [wdsTo, List.take_length, wds]
theorem wdsTo_len (l : List UInt8) (k : Nat) : (wdsTo l k).length ≤ k := by
  have h1 := List.length_filter_le (fun x : List UInt8 => !x.isEmpty) ((spl 32 l).take k)
  rw [List.length_take] at h1
  rw [wdsTo]
  omega
/-- a call that makes a new list of texts -/
def NewTexts (xs : List (List UInt8)) (w : World) (e : Ending) (w' : World) : Prop := ∃ v, e = .returned v ∧ OwnS w w' v xs ∧ v ≠ .slice none 0 0 ∧ Below w.heap.size w w'
end Go.Proofs.YtcjfdfjimcapkaaGreatDoor
