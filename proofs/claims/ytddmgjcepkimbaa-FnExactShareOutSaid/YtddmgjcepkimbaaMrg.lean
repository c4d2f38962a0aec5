/-
  Contracts on the library's stable sort: turning a part of a row, merging two sorted parts. They hold for every row whose length and places are small.
-/
import Derived.Test.YtddmgjcepkimbaaMrgPlain
import Derived.Test.YtddmgjcepkimbaaShelf
import Derived.Shelf.GgSortFunc.SW
import Derived.Shelf.GgSortMore.Stable
import Derived.IntWalk
import Derived.Deep.DeepCutAuto
namespace Go.Proofs.Ytddmgjcepkimbaa
set_option linter.unusedVariables false
set_option linter.unusedSimpArgs false
open Go.RowKit

open Go.Shelf Go.Lib Go.Sort
variable {α : Type} [Inhabited α] {enc : α → Value}
theorem sw_unalloc {w W : World} {o : Obj} {blk off : Nat} {dk : Array α} (h : SW enc (w.alloc o) blk off dk W) (hblk : blk < w.heap.size) : SW enc w blk off dk W := by
  obtain ⟨n, os, rfl⟩ := h
  exact ⟨n, _, sortWorld_alloc enc w o blk off n dk os hblk⟩
theorem sw_cell {w0 W : World} {blk off : Nat} {dk : Array α} {b k : Nat} (h : SW enc w0 blk off dk W) (hb : b < w0.heap.size) (hne : b ≠ blk) : W.cell? ⟨b, k, none⟩ = w0.cell? ⟨b, k, none⟩ := by
  obtain ⟨n, os, rfl⟩ := h
  unfold sortWorld
  rw [cell?_grow _ _ _ (by rw [Sort.size_putRow]; exact hb), cell?_putRow_other _ _ _ _ _ _ (Or.inl hne)]
  rfl
theorem sw_trans {w0 W W' : World} {blk off : Nat} {dk dk' : Array α} (h : SW enc w0 blk off dk W) (h' : SW enc W blk off dk' W') (hblk : blk < w0.heap.size) (hs : dk'.size = dk.size) : SW enc w0 blk off dk' W' := by
  obtain ⟨n, os, rfl⟩ := h'
  exact h.on hblk n dk' os hs
/-- n elements from a on and n elements from b on have changed places -/
def swv (a b n : Nat) (d : Array α) (k : Nat) : α := if a ≤ k ∧ k < a + n then d[k + (b - a)]! else if b ≤ k ∧ k < b + n then d[k - (b - a)]! else d[k]!
theorem swv_next {a b i n : Nat} {d dk : Array α} (hab : a + n ≤ b) (hb : b + n ≤ d.size) (hi : i < n) (hs : dk.size = d.size) (h : ∀ k, dk[k]! = swv a b i d k) : ∀ k, (swp dk (a + i) (b + i))[k]! = swv a b (i + 1) d k := by
  intro k
  rw [swp_get dk (by omega) (by omega), h, h, h]
  unfold swv
  repeat' split
  all_goals first | (exfalso; omega) | rfl | exact congrArg (fun z => d[z]!) (by omega)
/-- the turn: the part [m, hi) ahead of the part [lo, m) -/
def rotv (lo m hi : Nat) (d : Array α) (k : Nat) : α := if lo ≤ k ∧ k < lo + (hi - m) then d[k + (m - lo)]! else if lo + (hi - m) ≤ k ∧ k < hi then d[k - (hi - m)]! else d[k]!
theorem rotv_1 {m i j : Nat} {d e : Array α} (hj : 0 < j) (hij : j < i) (him : i ≤ m) (h : ∀ k, e[k]! = swv (m - i) m j d k) : ∀ k, rotv (m - (i - j)) m (m + j) e k = rotv (m - i) m (m + j) d k := by
  intro k
  unfold rotv
  rw [h, h, h]
  unfold swv
  repeat' split
  all_goals first | (exfalso; omega) | rfl | exact congrArg (fun z => d[z]!) (by omega)
theorem rotv_2 {m i j : Nat} {d e : Array α} (hi : 0 < i) (hij : i < j) (him : i ≤ m) (h : ∀ k, e[k]! = swv (m - i) (m + j - i) i d k) : ∀ k, rotv (m - i) m (m + (j - i)) e k = rotv (m - i) m (m + j) d k := by
  intro k
  unfold rotv
  rw [h, h, h]
  unfold swv
  repeat' split
  all_goals first | (exfalso; omega) | rfl | exact congrArg (fun z => d[z]!) (by omega)
theorem rotv_3 {m i : Nat} {d e : Array α} (him : i ≤ m) (h : ∀ k, e[k]! = swv (m - i) m i d k) : ∀ k, e[k]! = rotv (m - i) m (m + i) d k := by
  intro k
  rw [h]
  unfold rotv swv
  repeat' split
  all_goals first | (exfalso; omega) | rfl | exact congrArg (fun z => d[z]!) (by omega)
theorem rot_of {a m b : Nat} {d e : Array α} (ham : a ≤ m) (hmb : m ≤ b) (hp : PermIn a b d e) (h : ∀ k, e[k]! = rotv a m b d k) : Rot a m b d e :=
  ⟨hp, fun k h1 h2 => by rw [h, rotv, if_pos ⟨h1, h2⟩], fun k h1 h2 => by rw [h, rotv, if_neg (by omega), if_pos ⟨h1, h2⟩]⟩
def shl (a k : Nat) (d : Array α) (t : Nat) : α := if a ≤ t ∧ t < k then d[t + 1]! else if t = k then d[a]! else d[t]!
theorem shl_start (a : Nat) (d : Array α) : ∀ t, d[t]! = shl a a d t := fun t => by
  unfold shl
  rw [if_neg (by omega)]
  split
  next h => rw [h]
  · rfl
theorem shl_next {a k : Nat} {d dk : Array α} (hak : a ≤ k) (hk : k + 1 < dk.size) (h : ∀ t, dk[t]! = shl a k d t) : ∀ t, (swp dk k (k + 1))[t]! = shl a (k + 1) d t := by
  intro t
  rw [swp_get dk (by omega) (by omega), h, h, h]
  unfold shl
  repeat' split
  all_goals first | (exfalso; omega) | rfl | exact congrArg (fun z => d[z]!) (by omega)
theorem shl_rot {a i : Nat} {d dk : Array α} (hi : a < i) (hp : PermIn a i d dk) (h : ∀ t, dk[t]! = shl a (i - 1) d t) : Rot a (a + 1) i d dk :=
  ⟨hp, fun k h1 h2 => by rw [h, shl, if_pos (by omega)]; exact congrArg (fun z => d[z]!) (by omega), fun k h1 h2 => by rw [h, shl, if_neg (by omega), if_pos (by omega)]; exact congrArg (fun z => d[z]!) (by omega)⟩
def shr (k m : Nat) (d : Array α) (t : Nat) : α := if t = k then d[m]! else if k < t ∧ t ≤ m then d[t - 1]! else d[t]!
theorem shr_start (m : Nat) (d : Array α) : ∀ t, d[t]! = shr m m d t := fun t => by
  unfold shr
  split
  next h => rw [h]
  · rw [if_neg (by omega)]
theorem shr_next {k m : Nat} {d dk : Array α} (hk0 : 0 < k) (hkm : k ≤ m) (hk : k < dk.size) (h : ∀ t, dk[t]! = shr k m d t) : ∀ t, (swp dk k (k - 1))[t]! = shr (k - 1) m d t := by
  intro t
  rw [swp_get dk (by omega) (by omega), h, h, h]
  unfold shr
  repeat' split
  all_goals first | (exfalso; omega) | rfl | exact congrArg (fun z => d[z]!) (by omega)
theorem shr_rot {i m : Nat} {d dk : Array α} (hi : i ≤ m) (hp : PermIn i (m + 1) d dk) (h : ∀ t, dk[t]! = shr i m d t) : Rot i m (m + 1) d dk :=
  ⟨hp, fun k h1 h2 => by rw [h, shr, if_pos (by omega)]; exact congrArg (fun z => d[z]!) (by omega), fun k h1 h2 => by rw [h, shr, if_neg (by omega), if_pos (by omega)]; exact congrArg (fun z => d[z]!) (by omega)⟩
theorem int_add (a b : Nat) : (((a + b : Nat)) : Int) = (a : Int) + (b : Int) := by omega
set_option maxHeartbeats 1600000 in
set_option maxRecDepth 100000 in
theorem swapRange_any (lf : Fn) (la lb : Array Value) (sf : Nat) (sb : Array Value) (blk off a b n : Nat) (d : Array α) (w : World) (hswap : SwapSwaps Try.prog sf sb enc blk off d.size) (hH : Holds enc w blk off d) (hblk : blk < w.heap.size)
    (hab : a + n ≤ b) (hb : b + n ≤ d.size) (hsz : d.size < 4611686018427387904) :
    Calls Try.prog 35 #[.agg #[.func lf la lb, .func (.func sf) #[] sb], .int .i64 a, .int .i64 b, .int .i64 n] w fun e w' => e = .returned (.tuple #[]) ∧ ∃ d', SW enc w blk off d' w' ∧ PermIn a (b + n) d d' ∧ ∀ k, d'[k]! = swv a b n d k := by
  have hSW := (SW.start hH).alloc (.cells #[.func lf la lb, .func (.func sf) #[] sb] 47)
  have hH1 : Holds enc (w.alloc (.cells #[.func lf la lb, .func (.func sf) #[] sb] 47)) blk off d := hSW.holds hblk hH rfl
  have hb1 : blk < (w.alloc (.cells #[.func lf la lb, .func (.func sf) #[] sb] 47)).heap.size := hSW.lt hblk
  clear hSW
  go_enter Try.func35, Try.ntmps35
  go_wp2
  go_loopg [8] n (fun m v wr => ∃ i dk, i ≤ n ∧ m = n - i ∧ v = .int .i64 (i : Int) ∧ Hid (SW enc (w.alloc (.cells #[.func lf la lb, .func (.func sf) #[] sb] 47)) blk off dk wr) ∧ dk.size = d.size ∧ Hid (PermIn a (b + n) d dk) ∧ Hid (∀ k, dk[k]! = swv a b i d k))
  case atStart => exact ⟨0, d, Nat.zero_le _, rfl, rfl, Lib.hid (SW.start hH1), rfl, Lib.hid (permIn_refl d _ _), Lib.hid (fun k => by unfold swv; rw [if_neg (by omega), if_neg (by omega)])⟩
  case round =>
    obtain ⟨i, dk, hi, hgk, rfl, HW, hds, HP, HV⟩ := hrel
    have HGK := Lib.hid hgk
    clear hgk
    by_cases hlt : i < n
    · have hHk := HW.out.holds hb1 hH1 hds
      have c1 : wr.cell? ⟨w.heap.size, 1, none⟩ = some (.func (.func sf) #[] sb) := by rw [sw_cell HW.out (by simp) (by omega)]; simp
      have hs := hswap wr dk hHk hds (a + i) (b + i) (by omega) (by omega)
      rw [int_add, int_add] at hs
      have HN := Lib.hid (HW.out.swap hb1 (a + i) (b + i) (by omega) (by omega))
      have HP2 := Lib.hid (permIn_trans _ _ _ _ _ HP.out (swp_permIn dk a (b + n) (a + i) (b + i) (by omega) (by omega) (by omega) (by omega) (by omega)))
      have HV2 := Lib.hid (swv_next hab hb hlt hds HV.out)
      clear hHk hH hH1 hswap
      go_wp2
      go_roundg (n - (i + 1))
      case measure => rw [HGK.out]; omega
      case rel => exact ⟨i + 1, swp dk (a + i) (b + i), by omega, rfl, by go_num, HN, by rw [size_swp]; exact hds, HP2, HV2⟩
    · obtain rfl : i = n := by omega
      go_wp2
      go_end0
      exact ⟨rfl, dk, sw_unalloc HW.out hblk, HP.out, HV.out⟩
set_option maxHeartbeats 1600000 in
set_option maxRecDepth 100000 in
theorem rotate_any (lf : Fn) (la lb : Array Value) (sf : Nat) (sb : Array Value) (blk off a m b : Nat) (d : Array α) (w : World) (hswap0 : SwapSwaps Try.prog sf sb enc blk off d.size) (hH : Holds enc w blk off d) (hblk : blk < w.heap.size)
    (ham : a < m) (hmb : m < b) (hb : b ≤ d.size) (hsz : d.size < 4611686018427387904) :
    Calls Try.prog 34 #[.agg #[.func lf la lb, .func (.func sf) #[] sb], .int .i64 a, .int .i64 m, .int .i64 b] w fun e w' => e = .returned (.tuple #[]) ∧ ∃ d', SW enc w blk off d' w' ∧ Rot a m b d d' := by
  have hswap := Lib.hid hswap0
  have hSW := (SW.start hH).alloc (.cells #[.func lf la lb, .func (.func sf) #[] sb] 47)
  have HH := Lib.hid (hSW.holds hblk hH rfl : Holds enc (w.alloc (.cells #[.func lf la lb, .func (.func sf) #[] sb] 47)) blk off d)
  have hb1 : blk < (w.alloc (.cells #[.func lf la lb, .func (.func sf) #[] sb] 47)).heap.size := hSW.lt hblk
  clear hSW hH hswap0
  go_enter Try.func34, Try.ntmps34
  go_wp2
  go_loopg [8, 9] (m - a + (b - m)) (fun gm vi vj wr => ∃ i j dk, gm = i + j ∧ 0 < i ∧ 0 < j ∧ i ≤ m - a ∧ j ≤ b - m ∧ vi = .int .i64 (i : Int) ∧ vj = .int .i64 (j : Int) ∧ Hid (SW enc (w.alloc (.cells #[.func lf la lb, .func (.func sf) #[] sb] 47)) blk off dk wr) ∧ dk.size = d.size ∧ Hid (PermIn a b d dk) ∧ Hid (∀ k, rotv (m - i) m (m + j) dk k = rotv a m b d k))
  case atStart => exact ⟨m - a, b - m, d, rfl, by omega, by omega, Nat.le_refl _, Nat.le_refl _, by go_num, by go_num, Lib.hid (SW.start HH.out), rfl, Lib.hid (permIn_refl d _ _), Lib.hid (fun k => by rw [show m - (m - a) = a by omega, show m + (b - m) = b by omega])⟩
  case round =>
    obtain ⟨i, j, dk, hgk, hi0, hj0, hi, hj, rfl, rfl, HW, hds, HP, HV⟩ := hrel
    have HGK := Lib.hid hgk
    clear hgk
    have c0 : wr.cell? ⟨w.heap.size, 0, none⟩ = some (.func lf la lb) := by rw [sw_cell HW.out (by simp) (by omega)]; simp
    have c1 : wr.cell? ⟨w.heap.size, 1, none⟩ = some (.func (.func sf) #[] sb) := by rw [sw_cell HW.out (by simp) (by omega)]; simp
    have hbl : w.heap.size < wr.heap.size := World.block_lt_of_cell? wr _ c0
    have hbn : w.heap.size ≠ blk := by omega
    by_cases hij : i = j
    · obtain rfl := hij
      have hc := Lib.hid (by
        have h := swapRange_any (enc := enc) lf la lb sf sb blk off (m - i) (m) (i) dk wr (hds ▸ hswap.out) (HW.out.holds hb1 HH.out hds) (HW.out.lt hb1) (by omega) (by omega) (by omega)
        rw [show (((m - i : Nat)) : Int) = (m : Int) - (i : Int) by omega] at h
        skip
        exact h)
      go_wp2_with (go_at_call 35; refine hc.out.mono ?_; rintro e w2 ⟨rfl, dk2, hw2, hp2, hv2⟩; have c0_2 : w2.cell? ⟨w.heap.size, 0, none⟩ = some (.func lf la lb) := (sw_cell hw2 hbl hbn).trans c0; have c1_2 : w2.cell? ⟨w.heap.size, 1, none⟩ = some (.func (.func sf) #[] sb) := (sw_cell hw2 hbl hbn).trans c1)
      go_end0
      have HP2 := permIn_trans _ _ _ _ _ HP.out (permIn_mono _ _ (m - i) (m + i) a b (by omega) (by omega) (by omega) hp2)
      refine ⟨rfl, dk2, sw_unalloc (sw_trans HW.out hw2 hb1 hp2.1) hblk, rot_of (by omega) (by omega) HP2 fun k => ?_⟩
      rw [rotv_3 (by omega) hv2 k]
      exact HV.out k
    · by_cases hlt : j < i
      · have hne : ((i : Int) != (j : Int)) = true := by simp; omega
        have hc := Lib.hid (by
          have h := swapRange_any (enc := enc) lf la lb sf sb blk off (m - i) (m) (j) dk wr (hds ▸ hswap.out) (HW.out.holds hb1 HH.out hds) (HW.out.lt hb1) (by omega) (by omega) (by omega)
          rw [show (((m - i : Nat)) : Int) = (m : Int) - (i : Int) by omega] at h
          skip
          exact h)
        go_wp2_with (go_at_call 35; refine hc.out.mono ?_; rintro e w2 ⟨rfl, dk2, hw2, hp2, hv2⟩; have c0_2 : w2.cell? ⟨w.heap.size, 0, none⟩ = some (.func lf la lb) := (sw_cell hw2 hbl hbn).trans c0; have c1_2 : w2.cell? ⟨w.heap.size, 1, none⟩ = some (.func (.func sf) #[] sb) := (sw_cell hw2 hbl hbn).trans c1)
        have HP2 := Lib.hid (permIn_trans _ _ _ _ _ HP.out (permIn_mono _ _ (m - i) (m + j) a b (by omega) (by omega) (by omega) hp2))
        have HV2 := Lib.hid (fun k => (rotv_1 hj0 hlt (by omega) hv2 k).trans (HV.out k))
        have HW2 := Lib.hid (sw_trans HW.out hw2 hb1 hp2.1)
        have hd2 := hp2.1.trans hds
        go_roundg (i - j + j)
        case measure => rw [HGK.out]; omega
        case rel => exact ⟨i - j, j, dk2, rfl, by omega, hj0, by omega, hj, by go_num, rfl, HW2, hd2, HP2, HV2⟩
      · have hne : ((i : Int) != (j : Int)) = true := by simp; omega
        have hc := Lib.hid (by
          have h := swapRange_any (enc := enc) lf la lb sf sb blk off (m - i) (m + j - i) (i) dk wr (hds ▸ hswap.out) (HW.out.holds hb1 HH.out hds) (HW.out.lt hb1) (by omega) (by omega) (by omega)
          rw [show (((m - i : Nat)) : Int) = (m : Int) - (i : Int) by omega] at h
          rw [show (((m + j - i : Nat)) : Int) = (m : Int) + (j : Int) - (i : Int) by omega] at h
          exact h)
        go_wp2_with (go_at_call 35; refine hc.out.mono ?_; rintro e w2 ⟨rfl, dk2, hw2, hp2, hv2⟩; have c0_2 : w2.cell? ⟨w.heap.size, 0, none⟩ = some (.func lf la lb) := (sw_cell hw2 hbl hbn).trans c0; have c1_2 : w2.cell? ⟨w.heap.size, 1, none⟩ = some (.func (.func sf) #[] sb) := (sw_cell hw2 hbl hbn).trans c1)
        have HP2 := Lib.hid (permIn_trans _ _ _ _ _ HP.out (permIn_mono _ _ (m - i) (m + j - i + i) a b (by omega) (by omega) (by omega) hp2))
        have HV2 := Lib.hid (fun k => (rotv_2 hi0 (by omega) (by omega) hv2 k).trans (HV.out k))
        have HW2 := Lib.hid (sw_trans HW.out hw2 hb1 hp2.1)
        have hd2 := hp2.1.trans hds
        go_roundg (i + (j - i))
        case measure => rw [HGK.out]; omega
        case rel => exact ⟨i, j - i, dk2, rfl, hi0, by omega, hi, by omega, rfl, by go_num, HW2, hd2, HP2, HV2⟩
set_option maxHeartbeats 3200000 in
set_option maxRecDepth 100000 in
theorem symL_any {L lt : α → α → Bool} (hS0 : SWO L) (g : Nat) (lb : Array Value) (sf : Nat) (sb : Array Value) (blk off : Nat) (eg : ∀ args w, (callFunc g args).run Try.prog w = .ok (.enter g args) w) (D : Nat) (hD : D < 4611686018427387904) (hswap0 : SwapSwaps Try.prog sf sb enc blk off D) :
    ∀ (a m b : Nat) (d : Array α) (w : World), m = a + 1 → LessReads Try.prog g lb enc lt blk off D w → Holds enc w blk off d → blk < w.heap.size → d.size = D → a < m → m < b → b ≤ D → SortedIn L a m d → SortedIn L m b d → Cross lt L a m b d →
    Calls Try.prog 33 #[.agg #[.func (.func g) #[] lb, .func (.func sf) #[] sb], .int .i64 a, .int .i64 m, .int .i64 b] w fun e w' => e = .returned (.tuple #[]) ∧ ∃ d', SW enc w blk off d' w' ∧ PermIn a b d d' ∧ SortedIn L a b d' := by
  have hswap := Lib.hid hswap0
  have HS := Lib.hid hS0
  clear hswap0 hS0
  intro a m b d w hm1 hless0 hH hblk hd ham hmb hb h1 h2 hC
  have H1 := Lib.hid h1
  have H2 := Lib.hid h2
  have HC := Lib.hid hC
  have hSW := (SW.start hH).alloc (.cells #[.func (.func g) #[] lb, .func (.func sf) #[] sb] 47)
  have HH := Lib.hid (hSW.holds hblk hH rfl : Holds enc (w.alloc (.cells #[.func (.func g) #[] lb, .func (.func sf) #[] sb] 47)) blk off d)
  have HL := Lib.hid (hSW.lessReads hless0 hblk hd)
  have hb1 : blk < (w.alloc (.cells #[.func (.func g) #[] lb, .func (.func sf) #[] sb] 47)).heap.size := hSW.lt hblk
  clear hSW hH hless0 h1 h2 hC
  have HM1 := Lib.hid hm1
  have hma : m ≤ a + 1 := by omega
  have hg0 : ((m : Int) - (a : Int) == 1) = true := by simp; omega
  have HM : Hid (Mono (T1 lt d a) m b) := Lib.hid (by have e := HM1.out; subst e; exact mono1 HS.out H2.out HC.out)
  clear hm1
  go_enter Try.func33, Try.ntmps33
  go_wp2
  go_loopg [8, 9] (b - m) (fun gm vi vj wr => ∃ i j, gm = j - i ∧ vi = .int .i64 (i : Int) ∧ vj = .int .i64 (j : Int) ∧ Hid (Srch (T1 lt d a) m b i j) ∧ i ≤ j ∧ j ≤ b ∧ a < i ∧ Hid (SW enc (w.alloc (.cells #[.func (.func g) #[] lb, .func (.func sf) #[] sb] 47)) blk off d wr))
  case atStart => exact ⟨m, b, rfl, rfl, rfl, Lib.hid (Srch.start (by omega)), by omega, Nat.le_refl _, by omega, Lib.hid (SW.start HH.out)⟩
  case round =>
    obtain ⟨i, j, hgk, rfl, rfl, HT, hij, hjb, hai, HW⟩ := hrel
    have HGK := Lib.hid hgk
    clear hgk
    have c0 : wr.cell? ⟨w.heap.size, 0, none⟩ = some (.func (.func g) #[] lb) := by rw [sw_cell HW.out (by simp) (by omega)]; simp
    have c1 : wr.cell? ⟨w.heap.size, 1, none⟩ = some (.func (.func sf) #[] sb) := by rw [sw_cell HW.out (by simp) (by omega)]; simp
    by_cases hlt : i < j
    · have hl := HW.out.less HL.out hd ((i + j) / 2) a (by omega) (by omega)
      rw [show (((i + j) / 2 : Nat) : Int) = ((i : Int) + (j : Int)) / 2 by omega] at hl
      cases hT : T1 lt d a ((i + j) / 2)
      · have HT2 := Lib.hid (HT.out.down HM.out (by omega) (by omega) hT)
        unfold T1 at hT
        rw [hT] at hl
        clear hT
        go_wp2_with (go_at_fn g; refine hl.mono ?_; rintro e w2 ⟨rfl, q, rfl⟩)
        go_roundg ((i + j) / 2 - i)
        case measure => rw [HGK.out]; omega
        case rel => exact ⟨i, (i + j) / 2, rfl, rfl, by go_num, HT2, by omega, by omega, hai, Lib.hid (HW.out.drewN q)⟩
      · have HT2 := Lib.hid (HT.out.up HM.out (by omega) (by omega) hT)
        unfold T1 at hT
        rw [hT] at hl
        clear hT
        go_wp2_with (go_at_fn g; refine hl.mono ?_; rintro e w2 ⟨rfl, q, rfl⟩)
        go_roundg (j - ((i + j) / 2 + 1))
        case measure => rw [HGK.out]; omega
        case rel => exact ⟨(i + j) / 2 + 1, j, rfl, by go_num, rfl, HT2, by omega, hjb, by omega, Lib.hid (HW.out.drewN q)⟩
    · obtain rfl : i = j := by omega
      go_wp2
      go_loopg [11] (i - 1 - a) (fun gm vk wq => ∃ k dk, gm = i - 1 - k ∧ a ≤ k ∧ k ≤ i - 1 ∧ vk = .int .i64 (k : Int) ∧ Hid (SW enc (w.alloc (.cells #[.func (.func g) #[] lb, .func (.func sf) #[] sb] 47)) blk off dk wq) ∧ dk.size = D ∧ Hid (PermIn a i d dk) ∧ Hid (∀ t, dk[t]! = shl a k d t))
      case atStart => exact ⟨a, d, rfl, Nat.le_refl _, by omega, rfl, HW, hd, Lib.hid (permIn_refl d _ _), Lib.hid (shl_start a d)⟩
      case round =>
        obtain ⟨k, dk, hgk2, hak, hki, rfl, HW2, hds, HP, HV⟩ := hrel
        have HGK2 := Lib.hid hgk2
        clear hgk2
        have c0 : wr.cell? ⟨w.heap.size, 0, none⟩ = some (.func (.func g) #[] lb) := by rw [sw_cell HW2.out (by simp) (by omega)]; simp
        have c1 : wr.cell? ⟨w.heap.size, 1, none⟩ = some (.func (.func sf) #[] sb) := by rw [sw_cell HW2.out (by simp) (by omega)]; simp
        by_cases hlt2 : k < i - 1
        · have hs := hswap.out wr dk (HW2.out.holds hb1 HH.out (hds.trans hd.symm)) hds k (k + 1) (by omega) (by omega)
          rw [show (((k + 1 : Nat)) : Int) = (k : Int) + 1 by omega] at hs
          have HN := Lib.hid (HW2.out.swap hb1 k (k + 1) (by omega) (by omega))
          have HP2 := Lib.hid (permIn_trans _ _ _ _ _ HP.out (swp_permIn dk a i k (k + 1) (by omega) (by omega) (by omega) (by omega) (by omega)))
          have HV2 := Lib.hid (shl_next hak (by omega) HV.out)
          go_wp2
          go_roundg (i - 1 - (k + 1))
          case measure => rw [HGK2.out]; omega
          case rel => exact ⟨k + 1, swp dk k (k + 1), rfl, by omega, by omega, by go_num, HN, by rw [size_swp]; exact hds, HP2, HV2⟩
        · obtain rfl : k = i - 1 := by omega
          go_wp2
          refine bodyPost_ret (results_none rfl _ _ _) rfl ?_
          exact ⟨rfl, dk, sw_unalloc HW2.out hblk, permIn_mono _ _ a i a b (Nat.le_refl _) hjb (by omega) HP.out, (by have e := HM1.out; subst e; exact end1 HS.out hmb H1.out H2.out HC.out HT.out (shl_rot (by omega) HP.out HV.out))⟩
set_option maxHeartbeats 3200000 in
set_option maxRecDepth 100000 in
theorem symR_any {L lt : α → α → Bool} (hS0 : SWO L) (g : Nat) (lb : Array Value) (sf : Nat) (sb : Array Value) (blk off : Nat) (eg : ∀ args w, (callFunc g args).run Try.prog w = .ok (.enter g args) w) (D : Nat) (hD : D < 4611686018427387904) (hswap0 : SwapSwaps Try.prog sf sb enc blk off D) :
    ∀ (a m b : Nat) (d : Array α) (w : World), ¬ m = a + 1 ∧ b = m + 1 → LessReads Try.prog g lb enc lt blk off D w → Holds enc w blk off d → blk < w.heap.size → d.size = D → a < m → m < b → b ≤ D → SortedIn L a m d → SortedIn L m b d → Cross lt L a m b d →
    Calls Try.prog 33 #[.agg #[.func (.func g) #[] lb, .func (.func sf) #[] sb], .int .i64 a, .int .i64 m, .int .i64 b] w fun e w' => e = .returned (.tuple #[]) ∧ ∃ d', SW enc w blk off d' w' ∧ PermIn a b d d' ∧ SortedIn L a b d' := by
  have hswap := Lib.hid hswap0
  have HS := Lib.hid hS0
  clear hswap0 hS0
  intro a m b d w hmm hless0 hH hblk hd ham hmb hb h1 h2 hC
  have H1 := Lib.hid h1
  have H2 := Lib.hid h2
  have HC := Lib.hid hC
  have hSW := (SW.start hH).alloc (.cells #[.func (.func g) #[] lb, .func (.func sf) #[] sb] 47)
  have HH := Lib.hid (hSW.holds hblk hH rfl : Holds enc (w.alloc (.cells #[.func (.func g) #[] lb, .func (.func sf) #[] sb] 47)) blk off d)
  have HL := Lib.hid (hSW.lessReads hless0 hblk hd)
  have hb1 : blk < (w.alloc (.cells #[.func (.func g) #[] lb, .func (.func sf) #[] sb] 47)).heap.size := hSW.lt hblk
  clear hSW hH hless0 h1 h2 hC
  obtain ⟨hm1, hm2⟩ := hmm
  have hg1 : ((m : Int) - (a : Int) == 1) = false := by simp; omega
  have HM2 := Lib.hid hm2
  have hbm : b ≤ m + 1 := by omega
  have hg2 : ((b : Int) - (m : Int) == 1) = true := by simp; omega
  have HM : Hid (Mono (T2 lt d m) a m) := Lib.hid (by have e := HM2.out; subst e; exact mono2 HS.out H1.out HC.out)
  clear hm2
  go_enter Try.func33, Try.ntmps33
  go_wp2
  go_loopg [12, 13] (m - a) (fun gm vi vj wr => ∃ i j, gm = j - i ∧ vi = .int .i64 (i : Int) ∧ vj = .int .i64 (j : Int) ∧ Hid (Srch (T2 lt d m) a m i j) ∧ i ≤ j ∧ j ≤ m ∧ a ≤ i ∧ Hid (SW enc (w.alloc (.cells #[.func (.func g) #[] lb, .func (.func sf) #[] sb] 47)) blk off d wr))
  case atStart => exact ⟨a, m, rfl, rfl, rfl, Lib.hid (Srch.start (by omega)), by omega, Nat.le_refl _, Nat.le_refl _, Lib.hid (SW.start HH.out)⟩
  case round =>
    obtain ⟨i, j, hgk, rfl, rfl, HT, hij, hjb, hai, HW⟩ := hrel
    have HGK := Lib.hid hgk
    clear hgk
    have c0 : wr.cell? ⟨w.heap.size, 0, none⟩ = some (.func (.func g) #[] lb) := by rw [sw_cell HW.out (by simp) (by omega)]; simp
    have c1 : wr.cell? ⟨w.heap.size, 1, none⟩ = some (.func (.func sf) #[] sb) := by rw [sw_cell HW.out (by simp) (by omega)]; simp
    by_cases hlt : i < j
    · have hl := HW.out.less HL.out hd m ((i + j) / 2) (by omega) (by omega)
      rw [show (((i + j) / 2 : Nat) : Int) = ((i : Int) + (j : Int)) / 2 by omega] at hl
      cases hT : T2 lt d m ((i + j) / 2)
      · have HT2 := Lib.hid (HT.out.down HM.out (by omega) (by omega) hT)
        unfold T2 at hT
        rw [show lt d[m]! d[(i + j) / 2]! = true by simpa using hT] at hl
        clear hT
        go_wp2_with (go_at_fn g; refine hl.mono ?_; rintro e w2 ⟨rfl, q, rfl⟩)
        go_roundg ((i + j) / 2 - i)
        case measure => rw [HGK.out]; omega
        case rel => exact ⟨i, (i + j) / 2, rfl, rfl, by go_num, HT2, by omega, by omega, hai, Lib.hid (HW.out.drewN q)⟩
      · have HT2 := Lib.hid (HT.out.up HM.out (by omega) (by omega) hT)
        unfold T2 at hT
        rw [show lt d[m]! d[(i + j) / 2]! = false by simpa using hT] at hl
        clear hT
        go_wp2_with (go_at_fn g; refine hl.mono ?_; rintro e w2 ⟨rfl, q, rfl⟩)
        go_roundg (j - ((i + j) / 2 + 1))
        case measure => rw [HGK.out]; omega
        case rel => exact ⟨(i + j) / 2 + 1, j, rfl, by go_num, rfl, HT2, by omega, hjb, by omega, Lib.hid (HW.out.drewN q)⟩
    · obtain rfl : i = j := by omega
      go_wp2
      go_loopg [15] (m - i) (fun gm vk wq => ∃ k dk, gm = k - i ∧ i ≤ k ∧ k ≤ m ∧ vk = .int .i64 (k : Int) ∧ Hid (SW enc (w.alloc (.cells #[.func (.func g) #[] lb, .func (.func sf) #[] sb] 47)) blk off dk wq) ∧ dk.size = D ∧ Hid (PermIn i b d dk) ∧ Hid (∀ t, dk[t]! = shr k m d t))
      case atStart => exact ⟨m, d, rfl, hjb, Nat.le_refl _, rfl, HW, hd, Lib.hid (permIn_refl d _ _), Lib.hid (shr_start m d)⟩
      case round =>
        obtain ⟨k, dk, hgk2, hik, hkm, rfl, HW2, hds, HP, HV⟩ := hrel
        have HGK2 := Lib.hid hgk2
        clear hgk2
        have c0 : wr.cell? ⟨w.heap.size, 0, none⟩ = some (.func (.func g) #[] lb) := by rw [sw_cell HW2.out (by simp) (by omega)]; simp
        have c1 : wr.cell? ⟨w.heap.size, 1, none⟩ = some (.func (.func sf) #[] sb) := by rw [sw_cell HW2.out (by simp) (by omega)]; simp
        by_cases hlt2 : i < k
        · have hs := hswap.out wr dk (HW2.out.holds hb1 HH.out (hds.trans hd.symm)) hds k (k - 1) (by omega) (by omega)
          rw [show (((k - 1 : Nat)) : Int) = (k : Int) - 1 by omega] at hs
          have HN := Lib.hid (HW2.out.swap hb1 k (k - 1) (by omega) (by omega))
          have HP2 := Lib.hid (permIn_trans _ _ _ _ _ HP.out (swp_permIn dk i b k (k - 1) (by omega) (by omega) (by omega) (by omega) (by omega)))
          have HV2 := Lib.hid (shr_next (by omega) hkm (by omega) HV.out)
          go_wp2
          go_roundg (k - 1 - i)
          case measure => rw [HGK2.out]; omega
          case rel => exact ⟨k - 1, swp dk k (k - 1), rfl, by omega, by omega, by go_num, HN, by rw [size_swp]; exact hds, HP2, HV2⟩
        · obtain rfl : k = i := by omega
          go_wp2
          refine bodyPost_ret (results_none rfl _ _ _) rfl ?_
          exact ⟨rfl, dk, sw_unalloc HW2.out hblk, permIn_mono _ _ k b a b (by omega) (Nat.le_refl _) (by omega) HP.out, (by have e := HM2.out; subst e; exact end2 HS.out ham H1.out H2.out HC.out HT.out (shr_rot hkm HP.out HV.out))⟩
end Go.Proofs.Ytddmgjcepkimbaa
