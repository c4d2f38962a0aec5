/-
  Contracts: the dry spells and the longest of them, the program's and the reference's. They hold for every list of at most 1048576 numbers.
-/
import Derived.Test.YtcgnnlgakfndaaaRows2
import Derived.Test.YtcgnnlgakfndaaaBasic
import Derived.Deep.AppendLies
namespace Go.Proofs.Ytcgnnlgakfndaaa
set_option linter.unusedVariables false
set_option linter.unusedSimpArgs false
open Go.RowKit

theorem infoSl : (Try.prog.info? 22).map (fun i => (i.zero, i.size, i.bytes)) = some (some (.slice none 0 0), 1, 24) := by kernel_rfl
theorem one_sl (g : Nat) : ∀ u ∈ [Value.slice (some ⟨g, 0, none⟩) 2 2], u.oneCell' = true := by
  intro u hu
  simp at hu
  subst hu
  rfl
/-- a call that makes the dry spells -/
def Spells (zs : List Int) (w : World) (e : Ending) (w' : World) : Prop := ∃ ls, NewRows 22 2 ls w e w' ∧ topTo ls ls.length = ruM zs zs.length ∧ (∀ i, i < ls.length → 0 ≤ gt ls i ∧ gt ls i ≤ 1000) ∧ ls.length ≤ 1000
set_option maxRecDepth 100000 in
set_option maxHeartbeats 3200000 in
theorem spells_any (w : World) (A : Option Addr) (c : Nat) (zs : List Int) (hA : RC w A (ints zs)) (hm : zs.length ≤ 120) (hz : ∀ i, i < zs.length → 0 ≤ gt zs i ∧ gt zs i ≤ 3000) :
    Calls Try.prog 36 #[.slice A zs.length c] w (Spells zs w) := by
  have HA := Lib.hid hA
  have HZ := Lib.hid hz
  clear hA hz
  obtain ⟨i0, hi, hz0, hz1, hz2⟩ := info_parts infoSl
  go_enter Try.func36, Try.ntmps36
  go_wp2
  go_loopg [3, 9] zs.length (fun m v i wr => ∃ k g0 n cc gs ls, k ≤ zs.length ∧ m = zs.length - k ∧ i = .int .i64 (k : Int) ∧ v = .slice (some ⟨g0, 0, none⟩) n cc ∧ Rws wr w.heap.size 22 2 g0 n cc gs ls ∧ Dry zs k ls ∧ Below w.heap.size w wr)
  case atStart => exact ⟨0, w.heap.size, 0, 0, [], [], Nat.zero_le _, by omega, rfl, rfl, Rws.start w rfl, Dry.zero zs, bl_alloc (Below.refl _ _) _⟩
  case round =>
    obtain ⟨k, g0, n, cc, gs, ls, hk, hgk, rfl, rfl, hR, hD, hb⟩ := hrel
    have HGK := Lib.hid hgk
    have HR := Lib.hid hR
    have HD := Lib.hid hD
    have HB := Lib.hid hb
    have HLN := Lib.hid (show n ≤ 120 from by have := hD.len; have := hR.ll; omega)
    have zb := hb.size
    clear hgk
    by_cases hlt : k < zs.length
    · obtain ⟨b, off, rfl, hbl, hcell⟩ := HA.out (by rw [ints_len]; omega)
      have HC := Lib.hid (show ∀ j, j < zs.length → wr.cell? ⟨b, off + j, none⟩ = some (.int .i64 (gt zs j)) from fun j hj => by
        rw [hb.cell (p := ⟨b, off + j, none⟩) hbl, hcell j (by rw [ints_len]; exact hj), ints_get _ _ hj])
      have h1 := HC.out k hlt
      have b1 := HZ.out k hlt
      clear hcell
      by_cases hp : 0 < gt zs k
      · have HD2 := Lib.hid (hD.wet (by omega : gt zs k ≠ 0))
        clear hR hD
        go_wp2
        go_roundg (zs.length - (k + 1))
        case measure => rw [HGK.out]; omega
        case rel => exact ⟨k + 1, g0, n, cc, gs, ls, by omega, rfl, by go_num, rfl, HR.out, HD2.out, hb⟩
      · have e0 : gt zs k = 0 := by omega
        rcases k with _ | j
        · have HD2 := Lib.hid (hD.new e0 rfl)
          rw [Nat.add_zero] at h1
          clear hR hD e0
          go_wp2_with (at_builtin; refine wpList_append_lies _ rfl _ _ 61 rfl w.heap.size 22 i0 (.slice none 0 0) 1 24 Try.underlying61 hi hz0 hz1 hz2 rfl (by decide) _ _ _ rfl ((HR.out.own.alloc _).alloc _) ⟨wr.heap.size + 1, 0, none⟩ 1 1 [.slice (some ⟨wr.heap.size, 0, none⟩) 2 2] rfl rfl (app_news (blk_new (by simp))) (one_sl _) (by decide) (by have := HLN.out; unfold maxLen; omega) (by have := HLN.out; omega) (by simp; omega) (wr.heap.size + 2) (by simp) ?_; intro g2 cap w3 hown3 hgrow3 hat3 hlt3; have HR3 := Lib.hid (HR.out.push (x := _) (y := _) rfl (by omega) hown3 hgrow3 hat3 (by simp)); have HB3 := Lib.hid (show Below w.heap.size w w3 from app_belowB (bl_alloc (bl_alloc HB.out _) _) ((HR.out.own.alloc _).alloc _) (Nat.le_refl _) hgrow3); clear hown3 hgrow3 hat3 hlt3)
          go_roundg (zs.length - (0 + 1))
          case measure => rw [HGK.out]; omega
          case rel => exact ⟨1, g2, n + 1, cap, _, _, by omega, rfl, rfl, rfl, HR3.out, HD2.out, HB3.out⟩
        · have h2 := HC.out j (by omega)
          have b2 := HZ.out j (by omega)
          have hpos : (0 : Int) < (j : Int) + 1 := by omega
          by_cases e1 : gt zs j = 0
          · have hru : 0 < ruN zs (j + 1) := by have := ruN_dry e1; have := ruN_bd zs j; omega
            have hn : 0 < n := by have := (hD.end' hru).1; have := hR.ll; omega
            obtain ⟨q, rfl⟩ : ∃ q, n = q + 1 := ⟨n - 1, by omega⟩
            have hll := hR.ll
            have bd := hD.bd q (by omega)
            have HD2 := Lib.hid (show Dry zs (j + 1 + 1) (ls.set q (gt ls q + 1)) from by have h := hD.more e0 hru; rw [hll, Nat.add_sub_cancel] at h; exact h)
            have c1 := hR.cell (j := q) (by omega)
            obtain ⟨c2, c3⟩ := hR.len (j := q) (by omega)
            obtain ⟨x, hx⟩ : ∃ x, x = gt ls q := ⟨_, rfl⟩
            rw [← hx] at c2 bd
            have HR3 := Lib.hid (show Rws (wr.setCell ⟨gn gs q, 1, none⟩ (.int .i64 (x + 1))) w.heap.size 22 2 g0 (q + 1) cc gs (ls.set q (gt ls q + 1)) from by rw [hx]; have h := hR.bump hn (gt ls q + 1); rw [Nat.add_sub_cancel] at h; exact h)
            have HB3 := Lib.hid (bl_set (p := ⟨gn gs q, 1, none⟩) hb (hR.lo q (by omega)) (.int .i64 (x + 1)))
            have e1' : (gt zs j == 0) = true := by simpa using e1
            have hj120 : j ≤ 120 := by omega
            have hq120 : q ≤ 200 := by have := HLN.out; omega
            clear hR hD e0 e1 hru hx hll
            go_wp2
            go_roundg (zs.length - ((j + 1) + 1))
            case measure => rw [HGK.out]; omega
            case rel => exact ⟨j + 1 + 1, g0, q + 1, cc, gs, _, by omega, rfl, by go_num, rfl, HR3.out, HD2.out, HB3.out⟩
          · have HD2 := Lib.hid (hD.new e0 (ruN_wet e1))
            have e1' : (gt zs j == 0) = false := by simpa using e1
            clear hR hD e0 e1
            go_wp2_with (at_builtin; refine wpList_append_lies _ rfl _ _ 61 rfl w.heap.size 22 i0 (.slice none 0 0) 1 24 Try.underlying61 hi hz0 hz1 hz2 rfl (by decide) _ _ _ rfl ((HR.out.own.alloc _).alloc _) ⟨wr.heap.size + 1, 0, none⟩ 1 1 [.slice (some ⟨wr.heap.size, 0, none⟩) 2 2] rfl rfl (app_news (blk_new (by simp))) (one_sl _) (by decide) (by have := HLN.out; unfold maxLen; omega) (by have := HLN.out; omega) (by simp; omega) (wr.heap.size + 2) (by simp) ?_; intro g2 cap w3 hown3 hgrow3 hat3 hlt3; have HR3 := Lib.hid (HR.out.push (x := _) (y := _) rfl (by omega) hown3 hgrow3 hat3 (by simp)); have HB3 := Lib.hid (show Below w.heap.size w w3 from app_belowB (bl_alloc (bl_alloc HB.out _) _) ((HR.out.own.alloc _).alloc _) (Nat.le_refl _) hgrow3); clear hown3 hgrow3 hat3 hlt3)
            go_roundg (zs.length - ((j + 1) + 1))
            case measure => rw [HGK.out]; omega
            case rel => exact ⟨j + 1 + 1, g2, n + 1, cap, _, _, by omega, rfl, by go_num, rfl, HR3.out, HD2.out, HB3.out⟩
    · obtain rfl : k = zs.length := by omega
      have hll := hR.ll
      have HE := Lib.hid (show Spells zs w (.returned (.slice (some ⟨g0, 0, none⟩) n cc)) wr from ⟨ls, ⟨g0, n, cc, gs, rfl, hR, hb⟩, hD.top, fun i hi => by have := hD.bd i hi; omega, by have := hD.len; omega⟩)
      clear hR hD hll
      go_wp2
      go_ret
      exact HE.out
set_option maxRecDepth 100000 in
set_option maxHeartbeats 3200000 in
theorem implDry (w : World) (A : Option Addr) (c : Nat) (zs : List Int) (hA : RC w A (ints zs)) (hm : zs.length ≤ 1048576) :
    Calls Try.prog 9 #[.slice A zs.length c] w fun e w' => e = .returned (.tuple #[.int .i64 (dryV zs), .int .i64 (dryC zs)]) ∧ Below w.heap.size w w' := by
  have HA := Lib.hid hA
  clear hA
  cases k0 : rainOk zs
  · have H := Lib.hid (dry_bad k0)
    go_enter Try.func9, Try.ntmps9
    go_wp2_with (go_at_call 35; refine (implValidRain _ _ _ _ HA.out hm).mono ?_; rintro e w' ⟨rfl, rfl⟩)
    go_ret2
    exact ⟨ret_two H.out.1.symm H.out.2.symm, Below.refl _ _⟩
  · have H := Lib.hid (dry_ok k0)
    have R0 := Lib.hid (rainOk_of k0)
    have K0 := Lib.hid k0
    go_enter Try.func9, Try.ntmps9
    go_wp2_with (first | (go_at_call 35; refine (implValidRain _ _ _ _ HA.out hm).mono ?_; rintro e w' ⟨rfl, rfl⟩) | (go_at_call 36; refine (spells_any _ _ _ _ HA.out R0.out.2.1 R0.out.2.2).mono ?_; rintro e w1 ⟨ls, ⟨g0, n, cc, gs, rfl, hR, hb⟩, ht, hbd, hl⟩; have HT := Lib.hid ht; have HBD := Lib.hid hbd; have HR := Lib.hid hR; have HLL := Lib.hid hR.ll; have hn : n ≤ 1000 := (by have := hR.ll; omega); clear ht hbd hR))
    go_loopg [4, 13] n (fun m v i wr => ∃ k, k ≤ n ∧ m = n - k ∧ i = .int .i64 (k : Int) ∧ v = .int .i64 (topTo ls k) ∧ wr = w1)
    case atStart => exact ⟨0, Nat.zero_le _, by omega, rfl, rfl, rfl⟩
    case round =>
      obtain ⟨k, hk, hgk, rfl, rfl, rfl⟩ := hrel
      have HGK := Lib.hid hgk
      clear hgk
      by_cases hlt : k < n
      · have c1 := HR.out.cell hlt
        have c2 := (HR.out.len hlt).1
        have bd := HBD.out k (by rw [HLL.out]; exact hlt)
        have HS := Lib.hid (show topTo ls (k + 1) = mx (topTo ls k) (gt ls k) from rfl)
        obtain ⟨x, hx⟩ : ∃ x, x = gt ls k := ⟨_, rfl⟩
        obtain ⟨y, hy⟩ : ∃ y, y = topTo ls k := ⟨_, rfl⟩
        rw [← hx] at c2 bd
        rw [← hy]
        have HX := Lib.hid hx
        have HY := Lib.hid hy
        clear hx hy
        by_cases hq : y < x
        · have HE := Lib.hid (show topTo ls (k + 1) = x from by rw [HS.out, ← HX.out, ← HY.out]; exact mx_le (by omega))
          go_wp2
          go_roundg (n - (k + 1))
          case measure => rw [HGK.out]; omega
          case rel => exact ⟨k + 1, by omega, rfl, by go_num, by rw [HE.out], rfl⟩
        · have HE := Lib.hid (show topTo ls (k + 1) = y from by rw [HS.out, ← HX.out, ← HY.out]; have := mx_bd y x; omega)
          go_wp2
          go_roundg (n - (k + 1))
          case measure => rw [HGK.out]; omega
          case rel => exact ⟨k + 1, by omega, rfl, by go_num, by rw [HE.out], rfl⟩
      · obtain rfl : k = n := by omega
        go_wp2
        go_ret2
        exact ⟨ret_two (by rw [H.out.1, ← HT.out, HLL.out]) H.out.2.symm, hb⟩
/-- the reference's way: what is known where a day's search begins -/
structure DryS (zs : List Int) (i : Nat) (ls : List Int) : Prop where
  le : i ≤ zs.length + 1
  now : i ≤ zs.length → ruN zs i = 0 ∧ topTo ls ls.length = ruM zs i
  past : zs.length < i → topTo ls ls.length = ruM zs zs.length
  bd : ∀ j, j < ls.length → 0 ≤ gt ls j ∧ gt ls j ≤ 1000
  len : ls.length ≤ i
theorem DryS.zero (zs : List Int) : DryS zs 0 [] := ⟨by omega, fun _ => ⟨rfl, rfl⟩, fun h => absurd h (by omega), fun j hj => absurd hj (by simp), Nat.le_refl _⟩
theorem DryS.next {zs : List Int} {i k : Nat} {ls ms : List Int} (h : DryS zs i ls) (hi : i < zs.length) (hm : zs.length ≤ 120) (hik : i ≤ k) (hk : k ≤ zs.length) (hd : ∀ j, i ≤ j → j < k → gt zs j = 0) (hw : k < zs.length → gt zs k ≠ 0)
    (hms : (i < k ∧ ms = ls ++ [(k : Int) - (i : Int)]) ∨ (k = i ∧ ms = ls)) : DryS zs (k + 1) ms := by
  obtain ⟨n1, n2⟩ := h.now (by omega)
  obtain ⟨r1, r2⟩ := run_from n1 hik hd
  have top : topTo ms ms.length = ruM zs k := by
    rcases hms with ⟨h1, rfl⟩ | ⟨h1, rfl⟩
    · rw [List.length_append, List.length_singleton, topTo_snoc, n2, r2]
    · rw [n2, h1]
  have hl := h.len
  refine ⟨by omega, fun h1 => ?_, fun h1 => ?_, fun j hj => ?_, ?_⟩
  · have hw' := hw (by omega)
    exact ⟨ruN_wet hw', by rw [ruM_wet hw', top]⟩
  · rw [top, show k = zs.length by omega]
  · rcases hms with ⟨h1, rfl⟩ | ⟨h1, rfl⟩
    · rw [List.length_append, List.length_singleton] at hj
      by_cases e : j < ls.length
      · rw [gt_snoc_lt _ _ _ e]; exact h.bd j e
      · obtain rfl : j = ls.length := by omega
        rw [gt_snoc_eq]; omega
    · exact h.bd j hj
  · rcases hms with ⟨h1, rfl⟩ | ⟨h1, rfl⟩
    · simp; omega
    · omega
set_option maxRecDepth 100000 in
set_option maxHeartbeats 3200000 in
theorem l06Dry_any (w : World) (A : Option Addr) (c : Nat) (zs : List Int) (hA : RC w A (ints zs)) (hm : zs.length ≤ 120) :
    Calls Try.prog 33 #[.slice A zs.length c] w (Spells zs w) := by
  have HA := Lib.hid hA
  clear hA
  obtain ⟨i0, hi, hz0, hz1, hz2⟩ := info_parts infoSl
  go_enter Try.func33, Try.ntmps33
  go_wp2
  go_loopg [3, 4] (zs.length + 1) (fun m v i wr => ∃ k g0 n cc gs ls, k ≤ zs.length + 1 ∧ m = zs.length + 1 - k ∧ i = .int .i64 (k : Int) ∧ v = .slice (some ⟨g0, 0, none⟩) n cc ∧ Rws wr w.heap.size 22 2 g0 n cc gs ls ∧ DryS zs k ls ∧ Below w.heap.size w wr)
  case atStart => exact ⟨0, w.heap.size, 0, 0, [], [], Nat.zero_le _, by omega, rfl, rfl, Rws.start w rfl, DryS.zero zs, bl_alloc (Below.refl _ _) _⟩
  case round =>
    obtain ⟨i, g0, n, cc, gs, ls, hi', hgk, rfl, rfl, hR, hD, hb⟩ := hrel
    have HGK := Lib.hid hgk
    have HR := Lib.hid hR
    have HD := Lib.hid hD
    have HB := Lib.hid hb
    have HLN := Lib.hid (show n ≤ 121 from by have := hD.len; have := hR.ll; omega)
    have zb := hb.size
    obtain ⟨wo, rfl⟩ : ∃ wo : World, wo = wr := ⟨_, rfl⟩
    clear hgk
    by_cases hlt : i < zs.length
    · obtain ⟨b, off, rfl, hbl, hcell⟩ := HA.out (by rw [ints_len]; omega)
      have HC := Lib.hid (show ∀ j, j < zs.length → wo.cell? ⟨b, off + j, none⟩ = some (.int .i64 (gt zs j)) from fun j hj => by
        rw [hb.cell (p := ⟨b, off + j, none⟩) hbl, hcell j (by rw [ints_len]; exact hj), ints_get _ _ hj])
      clear hcell hR hD
      go_wp2
      go_loopg [5] (zs.length - i) (fun m v wr => ∃ k, i ≤ k ∧ k ≤ zs.length ∧ m = zs.length - k ∧ v = .int .i64 (k : Int) ∧ Hid (∀ j, i ≤ j → j < k → gt zs j = 0) ∧ wr = wo)
      case atStart => exact ⟨i, Nat.le_refl _, by omega, by omega, rfl, Lib.hid (fun j h1 h2 => absurd h1 (by omega)), rfl⟩
      case round =>
        obtain ⟨k, hik, hk, hgk, rfl, HT, rfl⟩ := hrel
        have HG2 := Lib.hid hgk
        clear hgk
        have hout : ∀ (hw : k < zs.length → gt zs k ≠ 0), Hid (∀ ms, (i < k ∧ ms = ls ++ [(k : Int) - (i : Int)]) ∨ (k = i ∧ ms = ls) → DryS zs (k + 1) ms) := fun hw => Lib.hid fun ms hms => HD.out.next hlt hm hik hk HT.out hw hms
        by_cases hkl : k < zs.length
        · have h1 := HC.out k hkl
          by_cases e0 : gt zs k = 0
          · have HT2 := Lib.hid (show ∀ j, i ≤ j → j < k + 1 → gt zs j = 0 from fun j h1 h2 => by
              by_cases e : j = k
              · subst e; exact e0
              · exact HT.out j h1 (by omega))
            have e0' : (gt zs k == 0) = true := by simpa using e0
            clear e0 hout
            go_wp2
            go_roundg (zs.length - (k + 1))
            case measure => rw [HG2.out]; omega
            case rel => exact ⟨k + 1, by omega, by omega, rfl, by go_num, HT2, rfl⟩
          · have HO := hout fun _ => e0
            have e0' : (gt zs k == 0) = false := by simpa using e0
            clear e0 hout
            by_cases hki : i < k
            · have HD2 := Lib.hid (HO.out _ (.inl ⟨hki, rfl⟩))
              go_wp2_with (at_builtin; refine wpList_append_lies _ rfl _ _ 61 rfl w.heap.size 22 i0 (.slice none 0 0) 1 24 Try.underlying61 hi hz0 hz1 hz2 rfl (by decide) _ _ _ rfl ((HR.out.own.alloc _).alloc _) ⟨wr.heap.size + 1, 0, none⟩ 1 1 [.slice (some ⟨wr.heap.size, 0, none⟩) 2 2] rfl rfl (app_news (blk_new (by simp))) (one_sl _) (by decide) (by have := HLN.out; unfold maxLen; omega) (by have := HLN.out; omega) (by simp; omega) (wr.heap.size + 2) (by simp) ?_; intro g2 cap w3 hown3 hgrow3 hat3 hlt3; have HR3 := Lib.hid (HR.out.push (x := _) (y := _) rfl (by omega) hown3 hgrow3 hat3 (by simp)); have HB3 := Lib.hid (show Below w.heap.size w w3 from app_belowB (bl_alloc (bl_alloc HB.out _) _) ((HR.out.own.alloc _).alloc _) (Nat.le_refl _) hgrow3); clear hown3 hgrow3 hat3 hlt3)
              go_roundg (zs.length + 1 - (k + 1))
              case measure => rw [HGK.out]; omega
              case rel => exact ⟨k + 1, g2, n + 1, cap, _, _, by omega, rfl, by go_num, rfl, HR3.out, HD2.out, HB3.out⟩
            · obtain rfl : k = i := by omega
              have HD2 := Lib.hid (HO.out _ (.inr ⟨rfl, rfl⟩))
              go_wp2
              go_roundg (zs.length + 1 - (k + 1))
              case measure => rw [HGK.out]; omega
              case rel => exact ⟨k + 1, g0, n, cc, gs, ls, by omega, rfl, by go_num, rfl, HR.out, HD2.out, hb⟩
        · have HO := hout fun h => absurd h hkl
          clear hout
          have hki : i < k := by omega
          have HD2 := Lib.hid (HO.out _ (.inl ⟨hki, rfl⟩))
          go_wp2_with (at_builtin; refine wpList_append_lies _ rfl _ _ 61 rfl w.heap.size 22 i0 (.slice none 0 0) 1 24 Try.underlying61 hi hz0 hz1 hz2 rfl (by decide) _ _ _ rfl ((HR.out.own.alloc _).alloc _) ⟨wr.heap.size + 1, 0, none⟩ 1 1 [.slice (some ⟨wr.heap.size, 0, none⟩) 2 2] rfl rfl (app_news (blk_new (by simp))) (one_sl _) (by decide) (by have := HLN.out; unfold maxLen; omega) (by have := HLN.out; omega) (by simp; omega) (wr.heap.size + 2) (by simp) ?_; intro g2 cap w3 hown3 hgrow3 hat3 hlt3; have HR3 := Lib.hid (HR.out.push (x := _) (y := _) rfl (by omega) hown3 hgrow3 hat3 (by simp)); have HB3 := Lib.hid (show Below w.heap.size w w3 from app_belowB (bl_alloc (bl_alloc HB.out _) _) ((HR.out.own.alloc _).alloc _) (Nat.le_refl _) hgrow3); clear hown3 hgrow3 hat3 hlt3)
          go_roundg (zs.length + 1 - (k + 1))
          case measure => rw [HGK.out]; omega
          case rel => exact ⟨k + 1, g2, n + 1, cap, _, _, by omega, rfl, by go_num, rfl, HR3.out, HD2.out, HB3.out⟩
    · have hll := hR.ll
      have HE := Lib.hid (show Spells zs w (.returned (.slice (some ⟨g0, 0, none⟩) n cc)) wo from ⟨ls, ⟨g0, n, cc, gs, rfl, hR, hb⟩, by
        rcases Nat.lt_or_ge zs.length i with h1 | h1
        · exact hD.past h1
        · obtain rfl : i = zs.length := by omega
          exact (hD.now (by omega)).2, hD.bd, by have := hD.len; omega⟩)
      clear hR hD hll
      go_wp2
      go_ret
      exact HE.out
set_option maxRecDepth 100000 in
set_option maxHeartbeats 3200000 in
theorem specDry (w : World) (A : Option Addr) (c : Nat) (zs : List Int) (hA : RC w A (ints zs)) (hm : zs.length ≤ 1048576) :
    Calls Try.prog 7 #[.slice A zs.length c] w fun e w' => e = .returned (.tuple #[.int .i64 (dryV zs), .int .i64 (dryC zs)]) ∧ Below w.heap.size w w' := by
  have HA := Lib.hid hA
  clear hA
  cases k0 : rainOk zs
  · have H := Lib.hid (dry_bad k0)
    go_enter Try.func7, Try.ntmps7
    go_wp2_with (go_at_call 32; refine (l06Ok_any _ _ _ _ HA.out hm).mono ?_; rintro e w' ⟨rfl, rfl⟩)
    go_ret2
    exact ⟨ret_two H.out.1.symm H.out.2.symm, Below.refl _ _⟩
  · have H := Lib.hid (dry_ok k0)
    have R0 := Lib.hid (rainOk_of k0)
    have K0 := Lib.hid k0
    go_enter Try.func7, Try.ntmps7
    go_wp2_with (first | (go_at_call 32; refine (l06Ok_any _ _ _ _ HA.out hm).mono ?_; rintro e w' ⟨rfl, rfl⟩) | (go_at_call 33; refine (l06Dry_any _ _ _ _ HA.out R0.out.2.1).mono ?_; rintro e w1 ⟨ls, ⟨g0, n, cc, gs, rfl, hR, hb⟩, ht, hbd, hl⟩; have HT := Lib.hid ht; have HBD := Lib.hid hbd; have HR := Lib.hid hR; have HLL := Lib.hid hR.ll; have hn : n ≤ 1000 := (by have := hR.ll; omega); clear ht hbd hR))
    go_loopg [5, 6] n (fun m v i wr => ∃ k, k ≤ n ∧ m = n - k ∧ i = .int .i64 (k : Int) ∧ v = .int .i64 (topTo ls k) ∧ wr = w1)
    case atStart => exact ⟨0, Nat.zero_le _, by omega, rfl, rfl, rfl⟩
    case round =>
      obtain ⟨k, hk, hgk, rfl, rfl, rfl⟩ := hrel
      have HGK := Lib.hid hgk
      clear hgk
      by_cases hlt : k < n
      · have c1 := HR.out.cell hlt
        have c2 := (HR.out.len hlt).1
        have bd := HBD.out k (by rw [HLL.out]; exact hlt)
        have HS := Lib.hid (show topTo ls (k + 1) = mx (topTo ls k) (gt ls k) from rfl)
        go_wp2_with (go_at_call 34; refine (l00Max_any _ _ _).mono ?_; rintro e w' ⟨rfl, rfl⟩)
        go_roundg (n - (k + 1))
        case measure => rw [HGK.out]; omega
        case rel => exact ⟨k + 1, by omega, rfl, by go_num, by rw [HS.out], rfl⟩
      · obtain rfl : k = n := by omega
        go_wp2
        go_ret2
        exact ⟨ret_two (by rw [H.out.1, ← HT.out, HLL.out]) H.out.2.symm, hb⟩
end Go.Proofs.Ytcgnnlgakfndaaa
