/-
  Contract of the library's replacer by its table.
-/
import Derived.Test.YtcjfdfjimcapkaaGreatDoorBsr
import Derived.Test.YtcjfdfjimcapkaaGreatDoorName
import Derived.Laws.CopyOwn
import Derived.Deep.DeepCutAuto
import Derived.IntWalk
import Derived.WalkSpells
namespace Go.Proofs.YtcjfdfjimcapkaaGreatDoor
set_option linter.unusedVariables false
set_option linter.unusedSimpArgs false
open Go.RowKit

theorem ck_le (l : List UInt8) : ∀ k, ck l k ≤ l.length := by
  have h := strk_len l
  rw [← hits_count] at h
  intro k
  match k with
  | 0 => exact Nat.zero_le _
  | 1 => simp only [ck] at *; omega
  | 2 => simp only [ck] at *; omega
  | n + 3 => simp only [ck] at *; omega
theorem hits_zero (l : List UInt8) : hits (l.take 0) = 0 := by simp [hits]
theorem hits_le (l : List UInt8) : hits l ≤ l.length := List.countP_le_length
theorem strk_le (l : List UInt8) (i : Nat) : (strk (l.take i)).length ≤ (strk l).length := by
  have h : strk l = strk (l.take i) ++ strk (l.drop i) := by
    show List.filter _ l = List.filter _ _ ++ List.filter _ _
    rw [← List.filter_append, List.take_append_drop]
  rw [h, List.length_append]
  omega
theorem byte_at (s : ByteArray) (i : Nat) (h : i < s.size) : ∃ X : UInt8, (s.data.toList[i]?) = some X ∧ (((s[i]'h).toNat : Nat) : Int) = (X.toNat : Int) ∧ X.toNat < 256 := by
  have h' : i < s.data.toList.length := by simpa using h
  exact ⟨s.data.toList[i], List.getElem?_eq_getElem h', rfl, (s.data.toList[i]).toNat_lt⟩
theorem hits_at {l : List UInt8} {i : Nat} {X : UInt8} (h : l[i]? = some X) : hits (l.take (i + 1)) = hits (l.take i) + (if hitK 3 X.toNat then 1 else 0) := by
  obtain ⟨h1, rfl⟩ := List.getElem?_eq_some_iff.1 h
  exact hits_next h1
theorem strk_at {l : List UInt8} {i : Nat} {X : UInt8} (h : l[i]? = some X) : strk (l.take (i + 1)) = strk (l.take i) ++ (if hitK 3 X.toNat then [] else [X]) := by
  obtain ⟨h1, rfl⟩ := List.getElem?_eq_some_iff.1 h
  exact strk_next h1
theorem infoByte : (Tryz.prog.info? 5).map (fun i => (i.zero, i.size, i.bytes)) = some (some (.int .u8 0), 1, 1) := by kernel_rfl
set_option maxRecDepth 100000 in
set_option maxHeartbeats 1600000 in
theorem bsr_any (w : World) (p G c : Nat) (s : ByteArray) (hs : s.size ≤ 1048576) (hT : Tab p G c w) :
    Calls Tryz.prog 134 #[.pointer (some ⟨p, 0, none⟩), .string s] w fun e w' => e = .returned (.string ⟨(strk s.data.toList).toArray⟩) ∧ Below w.heap.size w w' := by
  obtain ⟨zt, cur, kp, hrow, h256, kG, hcur⟩ := hT
  have hpl := (Array.getElem?_eq_some_iff.1 kp).1
  have x256 : w.cell? ⟨p, 256, none⟩ = some (.slice (some ⟨G, 0, none⟩) 3 c) := by rw [cell_of_row w p 256 _ _ (0, 0) kp]; exact h256
  have HTC := Lib.hid (show ∀ j, j < 256 → ∃ a c', w.cell? ⟨p, j, none⟩ = some (.slice a 0 c') ∧ a.isSome = hitK 3 j from fun j hj => by rw [cell_of_row w p j _ _ (0, 0) kp]; exact hrow j hj)
  have g0 : w.cell? ⟨G, 0, none⟩ = some (.string ⟨#[109]⟩) := by rw [cell_of_row w G 0 _ _ (0, 0) kG, hcur 0 (by omega)]; rfl
  have g1 : w.cell? ⟨G, 1, none⟩ = some (.string ⟨#[46]⟩) := by rw [cell_of_row w G 1 _ _ (0, 0) kG, hcur 1 (by omega)]; rfl
  have g2 : w.cell? ⟨G, 2, none⟩ = some (.string ⟨#[43]⟩) := by rw [cell_of_row w G 2 _ _ (0, 0) kG, hcur 2 (by omega)]; rfl
  have HH := Lib.hid (strk_len s.data.toList)
  have HN := Lib.hid (hits_count s.data.toList)
  clear kp hrow h256 kG hcur
  go_enter Tryz.func134, Tryz.ntmps134
  go_upto_if 26 with fail
  go_cut [5, 6] (fun v5 v6 wx => v5 = .int .i64 ((s.size : Int) - (hits s.data.toList : Int)) ∧ v6 = .bool (decide (0 < hits s.data.toList)) ∧ ∃ d, wx = w.drewN d)
  case first =>
    by_cases h24 : (24 : Int) ≤ (s.size : Int)
    · have e24 : decide ((24 : Int) ≤ (s.size : Int)) = true := by simpa using h24
      rw [e24]
      go_wp2
      go_loopg [5, 6, 32] 3 (fun m v5 v6 v32 wx => ∃ k d, k ≤ 3 ∧ m = 3 - k ∧ v32 = .int .i64 (k : Int) ∧ v5 = .int .i64 ((s.size : Int) - (ck s.data.toList k : Int)) ∧ v6 = .bool (decide (0 < ck s.data.toList k)) ∧ wx = w.drewN d)
      case atStart => exact ⟨0, 0, by decide, rfl, rfl, by simp [ck], by simp [ck], rfl⟩
      case round =>
      obtain ⟨k, d, hk, hgk, rfl, rfl, rfl, rfl⟩ := hrel
      have HGK := Lib.hid hgk
      clear hgk
      rcases (show k = 0 ∨ k = 1 ∨ k = 2 ∨ k = 3 by omega) with rfl | rfl | rfl | rfl
      · obtain ⟨n0, hn0⟩ : ∃ n0, Lib.countByte s.data.toList 109 = n0 := ⟨_, rfl⟩
        obtain ⟨n1, hn1⟩ : ∃ n1, ck s.data.toList 0 = n1 := ⟨_, rfl⟩
        have hck : ck s.data.toList 1 = n1 + n0 := by rw [← hn1, ← hn0]; simp [ck, Lib.countByte]
        have hcl : n1 + n0 ≤ s.data.toList.length := by rw [← hck]; exact ck_le _ _
        rw [← Lib.size_eq] at hcl
        have HCK := Lib.hid hck
        have hb0 : ((⟨#[109]⟩ : ByteArray)[0]'(by decide)).toNat = 109 := rfl
        have HCT := Lib.hid (fun W : World => (by have h := Tryz.strings_Count_one s 109 W; rw [hn0] at h; exact h : Calls Tryz.prog 136 #[.string s, .string ⟨#[109]⟩] W fun e w' => e = .returned (.int .i64 (n0 : Int)) ∧ w' = W))
        obtain ⟨a109, c109, x109, _⟩ := HTC.out 109 (by decide)
        rw [hn1]
        clear hck hn0 hn1
        by_cases hz : n0 = 0
        · have hzb : ((n0 : Int) != 0) = false := by simpa using hz
          go_wp2_with (go_at_call 136; refine (HCT.out _).mono ?_; rintro e w' ⟨rfl, rfl⟩)
          go_roundg (3 - (0 + 1))
          case measure => rw [HGK.out]; decide
          case rel => exact ⟨0 + 1, _, by decide, rfl, rfl, by rw [HCK.out, hz]; rfl, by rw [HCK.out, hz]; rfl, by first | rfl | exact World.drewN_drewN _ _ _⟩
        · have hzb : ((n0 : Int) != 0) = true := by simpa using hz
          have hw1 : IntKind.i64.wrap ((s.size : Int) - (n1 : Int) + (n0 : Int) * (-1)) = (s.size : Int) - ((n1 + n0 : Nat) : Int) := by rw [IntWalk.i64_in _ (by omega)]; omega
          have hw2 : IntKind.i64.wrap ((n0 : Int) * (-1)) = (n0 : Int) * (-1) := IntWalk.i64_in _ (by omega)
          go_wp2_with (go_at_call 136; refine (HCT.out _).mono ?_; rintro e w' ⟨rfl, rfl⟩)
          go_quiet (fail)
          go_wp2
          go_roundg (3 - (0 + 1))
          case measure => rw [HGK.out]; decide
          case rel => exact ⟨0 + 1, _, by decide, rfl, rfl, by rw [HCK.out]; first | rfl | (simp; omega), by rw [HCK.out]; simp; omega, by first | rfl | exact World.drewN_drewN _ _ _⟩
      · obtain ⟨n0, hn0⟩ : ∃ n0, Lib.countByte s.data.toList 46 = n0 := ⟨_, rfl⟩
        obtain ⟨n1, hn1⟩ : ∃ n1, ck s.data.toList 1 = n1 := ⟨_, rfl⟩
        have hck : ck s.data.toList 2 = n1 + n0 := by rw [← hn1, ← hn0]; simp [ck, Lib.countByte]
        have hcl : n1 + n0 ≤ s.data.toList.length := by rw [← hck]; exact ck_le _ _
        rw [← Lib.size_eq] at hcl
        have HCK := Lib.hid hck
        have hb0 : ((⟨#[46]⟩ : ByteArray)[0]'(by decide)).toNat = 46 := rfl
        have HCT := Lib.hid (fun W : World => (by have h := Tryz.strings_Count_one s 46 W; rw [hn0] at h; exact h : Calls Tryz.prog 136 #[.string s, .string ⟨#[46]⟩] W fun e w' => e = .returned (.int .i64 (n0 : Int)) ∧ w' = W))
        obtain ⟨a46, c46, x46, _⟩ := HTC.out 46 (by decide)
        rw [hn1]
        clear hck hn0 hn1
        by_cases hz : n0 = 0
        · have hzb : ((n0 : Int) != 0) = false := by simpa using hz
          go_wp2_with (go_at_call 136; refine (HCT.out _).mono ?_; rintro e w' ⟨rfl, rfl⟩)
          go_roundg (3 - (1 + 1))
          case measure => rw [HGK.out]; decide
          case rel => exact ⟨1 + 1, _, by decide, rfl, rfl, by rw [HCK.out, hz]; rfl, by rw [HCK.out, hz]; rfl, by first | rfl | exact World.drewN_drewN _ _ _⟩
        · have hzb : ((n0 : Int) != 0) = true := by simpa using hz
          have hw1 : IntKind.i64.wrap ((s.size : Int) - (n1 : Int) + (n0 : Int) * (-1)) = (s.size : Int) - ((n1 + n0 : Nat) : Int) := by rw [IntWalk.i64_in _ (by omega)]; omega
          have hw2 : IntKind.i64.wrap ((n0 : Int) * (-1)) = (n0 : Int) * (-1) := IntWalk.i64_in _ (by omega)
          go_wp2_with (go_at_call 136; refine (HCT.out _).mono ?_; rintro e w' ⟨rfl, rfl⟩)
          go_quiet (fail)
          go_wp2
          go_roundg (3 - (1 + 1))
          case measure => rw [HGK.out]; decide
          case rel => exact ⟨1 + 1, _, by decide, rfl, rfl, by rw [HCK.out]; first | rfl | (simp; omega), by rw [HCK.out]; simp; omega, by first | rfl | exact World.drewN_drewN _ _ _⟩
      · obtain ⟨n0, hn0⟩ : ∃ n0, Lib.countByte s.data.toList 43 = n0 := ⟨_, rfl⟩
        obtain ⟨n1, hn1⟩ : ∃ n1, ck s.data.toList 2 = n1 := ⟨_, rfl⟩
        have hck : ck s.data.toList 3 = n1 + n0 := by rw [← hn1, ← hn0]; simp [ck, Lib.countByte]
        have hcl : n1 + n0 ≤ s.data.toList.length := by rw [← hck]; exact ck_le _ _
        rw [← Lib.size_eq] at hcl
        have HCK := Lib.hid hck
        have hb0 : ((⟨#[43]⟩ : ByteArray)[0]'(by decide)).toNat = 43 := rfl
        have HCT := Lib.hid (fun W : World => (by have h := Tryz.strings_Count_one s 43 W; rw [hn0] at h; exact h : Calls Tryz.prog 136 #[.string s, .string ⟨#[43]⟩] W fun e w' => e = .returned (.int .i64 (n0 : Int)) ∧ w' = W))
        obtain ⟨a43, c43, x43, _⟩ := HTC.out 43 (by decide)
        rw [hn1]
        clear hck hn0 hn1
        by_cases hz : n0 = 0
        · have hzb : ((n0 : Int) != 0) = false := by simpa using hz
          go_wp2_with (go_at_call 136; refine (HCT.out _).mono ?_; rintro e w' ⟨rfl, rfl⟩)
          go_roundg (3 - (2 + 1))
          case measure => rw [HGK.out]; decide
          case rel => exact ⟨2 + 1, _, by decide, rfl, rfl, by rw [HCK.out, hz]; rfl, by rw [HCK.out, hz]; rfl, by first | rfl | exact World.drewN_drewN _ _ _⟩
        · have hzb : ((n0 : Int) != 0) = true := by simpa using hz
          have hw1 : IntKind.i64.wrap ((s.size : Int) - (n1 : Int) + (n0 : Int) * (-1)) = (s.size : Int) - ((n1 + n0 : Nat) : Int) := by rw [IntWalk.i64_in _ (by omega)]; omega
          have hw2 : IntKind.i64.wrap ((n0 : Int) * (-1)) = (n0 : Int) * (-1) := IntWalk.i64_in _ (by omega)
          go_wp2_with (go_at_call 136; refine (HCT.out _).mono ?_; rintro e w' ⟨rfl, rfl⟩)
          go_quiet (fail)
          go_wp2
          go_roundg (3 - (2 + 1))
          case measure => rw [HGK.out]; decide
          case rel => exact ⟨2 + 1, _, by decide, rfl, rfl, by rw [HCK.out]; first | rfl | (simp; omega), by rw [HCK.out]; simp; omega, by first | rfl | exact World.drewN_drewN _ _ _⟩
      · go_wp2
        go_meet
        exact ⟨by rw [HN.out], by rw [HN.out], d, rfl⟩
    · have e24 : decide ((24 : Int) ≤ (s.size : Int)) = false := by simpa using h24
      rw [e24]
      go_wp2
      go_loopg [5, 6, 10] s.size (fun m v5 v6 v10 wx => ∃ i d, i ≤ s.size ∧ m = s.size - i ∧ v10 = .int .i64 (i : Int) ∧ v5 = .int .i64 ((s.size : Int) - (hits (s.data.toList.take i) : Int)) ∧ v6 = .bool (decide (0 < hits (s.data.toList.take i))) ∧ wx = w.drewN d)
      case atStart => exact ⟨0, 0, Nat.zero_le _, rfl, rfl, by rw [hits_zero]; simp, by rw [hits_zero]; rfl, rfl⟩
      case round =>
      obtain ⟨i, d, hi, hgk, rfl, rfl, rfl, rfl⟩ := hrel
      have HGK := Lib.hid hgk
      clear hgk
      by_cases hlt : i < s.size
      · obtain ⟨X, hX, hbx, hX2⟩ := byte_at s i hlt
        obtain ⟨a, c', x, hax⟩ := HTC.out X.toNat hX2
        have hnx := hits_at hX
        have hle := hits_le (s.data.toList.take i)
        rw [List.length_take] at hle
        obtain ⟨n1, hn1⟩ : ∃ n1, hits (s.data.toList.take i) = n1 := ⟨_, rfl⟩
        obtain ⟨Y, hY⟩ : ∃ Y, X.toNat = Y := ⟨_, rfl⟩
        rw [hY] at hbx hX2 x hax hnx
        rw [hn1] at hnx hle ⊢
        have HNX := Lib.hid hnx
        have hX3 : (Y : Int) < 256 := by omega
        have qn : ∀ (W : World) (a : Option Addr) (n c n' c' : Nat), (binOp .neq 65 (.slice a n c) (.slice none n' c')).run Tryz.prog W = .ok (.bool (!a.isNone)) W := fun W a n c n' c' => run_neq_slice_nil_any W _ _ a n c n' c' Tryz.underlying65
        clear hn1 hnx hX hY
        cases a with
        | none =>
          have hh : hitK 3 Y = false := by simpa using hax.symm
          rw [hh] at HNX
          have HN2 := Lib.hid (show hits (s.data.toList.take (i + 1)) = n1 by rw [HNX.out]; rfl)
          go_wp2
          go_roundg (s.size - (i + 1))
          case measure => rw [HGK.out]; omega
          case rel => exact ⟨i + 1, _, by omega, rfl, by go_num, by rw [HN2.out], by rw [HN2.out], rfl⟩
        | some a =>
          have hh : hitK 3 Y = true := by simpa using hax.symm
          rw [hh] at HNX
          have HN2 := Lib.hid (show hits (s.data.toList.take (i + 1)) = n1 + 1 by rw [HNX.out]; rfl)
          go_wp2
          go_roundg (s.size - (i + 1))
          case measure => rw [HGK.out]; omega
          case rel => exact ⟨i + 1, _, by omega, rfl, by go_num, by rw [HN2.out]; first | rfl | (simp; omega), by rw [HN2.out]; simp, rfl⟩
      · obtain rfl : i = s.size := by omega
        have ht : s.data.toList.take s.size = s.data.toList := List.take_of_length_le (by rw [← Lib.size_eq]; exact Nat.le_refl _)
        go_wp2
        go_meet
        exact ⟨by rw [ht], by rw [ht], d, rfl⟩
  case rest =>
    obtain ⟨rfl, rfl, d, rfl⟩ := hcut
    obtain ⟨K, hK⟩ : ∃ K, (strk s.data.toList).length = K := ⟨_, rfl⟩
    have hsum := HH.out
    rw [hK, ← Lib.size_eq] at hsum
    have e5 : (s.size : Int) - (hits s.data.toList : Int) = (K : Int) := by omega
    rw [e5]
    have HK := Lib.hid hK
    by_cases h0 : hits s.data.toList = 0
    · have e6 : decide (0 < hits s.data.toList) = false := by simp; omega
      rw [e6]
      have HI := Lib.hid (strk_id h0)
      clear h0 hsum e5 e6
      go_wp2
      go_ret
      exact ⟨by rw [HI.out]; rfl, by repeat (first | exact Below.refl _ _ | assumption | apply bl_alloc | apply bl_drewN | apply Below.drew | (refine bl_set ?_ (by first | exact Nat.le_refl _ | (simp; done) | (simp; omega)) _) | (refine bl_trans ?_ (by assumption)))⟩
    · have e6 : decide (0 < hits s.data.toList) = true := by simp; omega
      rw [e6]
      clear h0 e5 e6 hK
      obtain ⟨i0, hi, hz0, hz1, hz2⟩ := info_parts infoByte
      have hmk : ∀ W : World, (Instr.makeSlice 65 (.int .i64 (K : Int)) (.int .i64 (K : Int))).run Tryz.prog W = .ok (.slice (some ⟨W.heap.size, 0, none⟩) K K) (W.alloc (.cells (madeCells #[.int .u8 0] K) 5)) := fun W => by
        have h := run_make_full_row (P := Tryz.prog) 65 5 i0 (.int .u8 0) Tryz.underlying65 hi hz0 K (by rw [hz2]; omega) (by omega) W
        simpa [hz1, Value.cells] using h
      have hms : (madeCells #[Value.int .u8 0] K).size = K := size_madeCells _ _
      clear hi hz0 hz1 hz2
      go_wp2
      go_loopg [13, 14] s.size (fun m v13 v14 wx => ∃ i cu, i ≤ s.size ∧ m = s.size - i ∧ v14 = .int .i64 (i : Int) ∧ v13 = .int .i64 ((strk (s.data.toList.take i)).length : Int) ∧ wx.heap[w.heap.size]? = some (.cells cu 5 (0, 0)) ∧ cu.size = K ∧ (∀ t, t < (strk (s.data.toList.take i)).length → cu[t]? = (Lib.byteCells (strk (s.data.toList.take i)))[t]?) ∧ Below w.heap.size w wx)
      case atStart => exact ⟨0, _, Nat.zero_le _, rfl, rfl, rfl, by first | exact heap_alloc_new _ _ | (repeat (first | (refine blk_new ?_; (first | rfl | (simp; done) | (simp; omega))) | refine blk_drewN ?_ | refine blk_old ?_)), hms, fun t ht => by simp [strk] at ht, by repeat (first | exact Below.refl _ _ | assumption | apply bl_alloc | apply bl_drewN | apply Below.drew | (refine bl_set ?_ (by first | exact Nat.le_refl _ | (simp; done) | (simp; omega)) _) | (refine bl_trans ?_ (by assumption)))⟩
      case round =>
      obtain ⟨i, cu, hi, hgk, rfl, rfl, kb, hcz, hcu, hbw⟩ := hrel
      have HGK := Lib.hid hgk
      clear hgk
      have hJK := strk_le s.data.toList i
      rw [HK.out] at hJK
      by_cases hlt : i < s.size
      · obtain ⟨X, hX, hbx, hX2⟩ := byte_at s i hlt
        obtain ⟨a, c', x, hax⟩ := HTC.out X.toNat hX2
        have hnx := strk_at hX
        have hJK2 := strk_le s.data.toList (i + 1)
        rw [HK.out] at hJK2
        obtain ⟨M, hM⟩ : ∃ M, strk (s.data.toList.take i) = M := ⟨_, rfl⟩
        obtain ⟨J, hJ⟩ : ∃ J, M.length = J := ⟨_, rfl⟩
        obtain ⟨Y, hY⟩ : ∃ Y, X.toNat = Y := ⟨_, rfl⟩
        rw [hM] at hnx hJK hcu ⊢
        rw [hJ] at hJK hcu ⊢
        rw [hY] at hbx hX2 x hax hnx
        have hX3 : (Y : Int) < 256 := by omega
        have x5 := (hbw.cell (p := ⟨p, Y, none⟩) hpl).trans x
        have qn : ∀ (W : World) (a : Option Addr) (n c n' c' : Nat), (binOp .neq 65 (.slice a n c) (.slice none n' c')).run Tryz.prog W = .ok (.bool (!a.isNone)) W := fun W a n c n' c' => run_neq_slice_nil_any W _ _ a n c n' c' Tryz.underlying65
        have HCU := Lib.hid hcu
        have HMJ := Lib.hid (And.intro hM hJ)
        have kbl := (Array.getElem?_eq_some_iff.1 kb).1
        cases a with
        | none =>
          have hh : hitK 3 Y = false := by simpa using hax.symm
          rw [hh] at hnx
          have hn2 : strk (s.data.toList.take (i + 1)) = M ++ [X] := by rw [hnx]; rfl
          have hlt2 : J < K := by rw [hn2, List.length_append, hJ] at hJK2; simp at hJK2; omega
          have HN2 := Lib.hid hn2
          have K9 := Lib.hid (heap_setCell_same _ _ J _ _ (.int .u8 (Y : Int)) kb)
          have y5 : wr.frozen? ⟨w.heap.size, J, none⟩ = false := frozen_of_row wr _ J _ _ kb
          have z5 : wr.cell? ⟨w.heap.size, J, none⟩ = cu[J]? := cell_of_row wr _ J _ _ (0, 0) kb
          obtain ⟨v5, hv5⟩ : ∃ v, cu[J]? = some v := ⟨_, Array.getElem?_eq_getElem (by omega)⟩
          rw [hv5] at z5
          clear hv5
          have HXY := Lib.hid hY
          clear hnx hn2 hM hJ hX hcu hY
          go_wp2
          go_roundg (s.size - (i + 1))
          case measure => rw [HGK.out]; omega
          case rel =>
            refine ⟨i + 1, _, by omega, rfl, by go_num, by rw [HN2.out, List.length_append, HMJ.out.2]; rfl, K9.out, by simpa using hcz, fun t ht => ?_, by repeat (first | exact Below.refl _ _ | assumption | apply bl_alloc | apply bl_drewN | apply Below.drew | (refine bl_set ?_ (by first | exact Nat.le_refl _ | (simp; done) | (simp; omega)) _) | (refine bl_trans ?_ (by assumption)))⟩
            rw [HN2.out, List.length_append, HMJ.out.2] at ht
            simp at ht
            rw [HN2.out, Array.getElem?_setIfInBounds]
            by_cases h : J = t
            · subst h
              rw [if_pos rfl, if_pos (by omega)]
              simp [Lib.byteCells, List.getElem?_append_right, HMJ.out.2, HXY.out]
            · rw [if_neg h, HCU.out t (by omega)]
              simp [Lib.byteCells, List.getElem?_append_left, show t < M.length by rw [HMJ.out.2]; omega]
        | some a =>
          have hh : hitK 3 Y = true := by simpa using hax.symm
          rw [hh] at hnx
          have hn2 : strk (s.data.toList.take (i + 1)) = M := by rw [hnx]; simp
          have HN2 := Lib.hid hn2
          have hcp : ∀ (W : World) (d : Option Addr) (n m : Nat), (Builtin.copy_ #[65, 65] 3 #[.slice d n m, .slice (some a) 0 c']).run Tryz.prog W = .ok (.int .i64 0) W := fun W d n m => run_copy_none W 65 65 3 5 d (some a) n m 0 c' Tryz.underlying65 (by kernel_rfl) (Nat.zero_min _)
          clear hnx hn2 hM hJ hX hcu hY
          rcases Nat.lt_or_ge J K with hJl | hJl
          · have hn3 : ¬ J = K := by omega
            have hn4 : ¬ K = J := by omega
            have hn5 : ¬ K - J = 0 := by omega
            go_wp2
            go_quiet (fail)
            go_wp2
            go_roundg (s.size - (i + 1))
            case measure => rw [HGK.out]; omega
            case rel => exact ⟨i + 1, _, by omega, rfl, by go_num, by rw [HN2.out, HMJ.out.2], kb, hcz, fun t ht => by rw [HN2.out] at ht ⊢; rw [HMJ.out.2] at ht; exact HCU.out t ht, by repeat (first | exact Below.refl _ _ | assumption | apply bl_alloc | apply bl_drewN | apply Below.drew | (refine bl_set ?_ (by first | exact Nat.le_refl _ | (simp; done) | (simp; omega)) _) | (refine bl_trans ?_ (by assumption)))⟩
          · obtain rfl : K = J := by omega
            go_wp2
            go_quiet (fail)
            go_wp2
            go_roundg (s.size - (i + 1))
            case measure => rw [HGK.out]; omega
            case rel => exact ⟨i + 1, _, by omega, rfl, by go_num, by rw [HN2.out, HMJ.out.2], kb, hcz, fun t ht => by rw [HN2.out] at ht ⊢; rw [HMJ.out.2] at ht; exact HCU.out t ht, by repeat (first | exact Below.refl _ _ | assumption | apply bl_alloc | apply bl_drewN | apply Below.drew | (refine bl_set ?_ (by first | exact Nat.le_refl _ | (simp; done) | (simp; omega)) _) | (refine bl_trans ?_ (by assumption)))⟩
      · obtain rfl : i = s.size := by omega
        have ht : s.data.toList.take s.size = s.data.toList := List.take_of_length_le (by rw [← Lib.size_eq]; exact Nat.le_refl _)
        rw [ht, HK.out] at hcu
        rw [ht, HK.out]
        have htk : cu.toList.take (strk s.data.toList).length = Lib.byteCells (strk s.data.toList) := by
          rw [HK.out]
          apply List.ext_getElem?
          intro j
          rw [List.getElem?_take]
          by_cases hj : j < K
          · rw [if_pos hj, ← hcu j hj]; simp
          · rw [if_neg hj, List.getElem?_eq_none (by rw [Lib.byteCells, List.length_map, HK.out]; omega)]
        have hcv := run_convert_bytes_back (P := Tryz.prog) wr 65 9 5 ⟨w.heap.size, 0, none⟩ K (strk s.data.toList) Tryz.underlying65 Tryz.underlying5 Tryz.underlying9 (Lib.bytes_of_row kb htk)
        rw [HK.out] at hcv
        clear hcu htk ht
        go_wp2
        go_ret
        exact ⟨rfl, hbw⟩
end Go.Proofs.YtcjfdfjimcapkaaGreatDoor
