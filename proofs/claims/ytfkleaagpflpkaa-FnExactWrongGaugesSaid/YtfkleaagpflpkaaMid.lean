/-
  Contracts of the middle one of sorted numbers: the program's, over the library's sort of a slice. They hold for every list of at most 1048576 numbers.
-/
import Derived.Test.YtfkleaagpflpkaaMed
import Derived.Test.YtfkleaagpflpkaaShelf
import Derived.Shelf.GgSortFunc.Whole
import Derived.Shelf.GgSortFunc.Tiny
import Derived.Deep.QuietTactic
import Derived.Lib.OwnBridge
import Derived.Sort.LotA
namespace Go.Proofs.Ytfkleaagpflpkaa
set_option linter.unusedVariables false
open Go.Shelf Go.RowKit Go.Lib Go.Sort
noncomputable def siT : TypeInfo := (Try.prog.info? 22).get (by kernel_rfl)
noncomputable def siE : TypeInfo := (Try.prog.info? 2).get (by kernel_rfl)
theorem siK (n : Nat) (h2 : 2 ≤ n) : Lib.swapperK n siE 6 = 5 := by
  have a : siE.hasPointers = false := by kernel_rfl
  have b : siE.bytes = 8 := by kernel_rfl
  have c : (n == 0) = false := by simp; omega
  have d : (n == 1) = false := by simp; omega
  simp [Lib.swapperK, a, b, c, d]
theorem sorted_eq (d d' : Array Int) (hp : PermIn 0 d.size d d') (hs : SortedIn ltInt 0 d.size d') : d' = (srt d.toList).toArray := by
  have h := sorted_unique_holds (lt := ltInt) swo_ltInt (fun x y h1 h2 => by simp only [ltInt, decide_eq_false_iff_not] at h1 h2; omega) d d' hp hs
  have e : (fun x y : Int => !ltInt y x) = fun x y => decide (x ≤ y) := by
    funext x y
    simp only [ltInt]
    by_cases h : x ≤ y
    · first | (simp [h]; done) | (simp [h]; omega)
    · first | (simp [h]; done) | (simp [h]; omega)
  rw [e] at h
  rw [srt, ← h]
theorem below_gr2 {B : Nat} {a w : World} (h : Below B a w) (hB : B ≤ w.heap.size) (os : Array Obj) : Below B a (grow w os) :=
  h.trans ⟨rfl, rfl, rfl, by rw [Sort.size_grow]; omega, fun _ hk => Sort.heap_grow_old w os (by omega)⟩
theorem srt_arr (l : List Int) (j : Nat) (h : j < l.length) : (srt l).toArray[j]! = gt (srt l) j := by
  have h' : j < (srt l).length := by rw [srt_len]; exact h
  rw [gt_at _ _ h']
  simp [h']
set_option maxHeartbeats 2000000 in
theorem less_any (blk off c Bs size : Nat) (W : World) (G : Nat → Int) (hs : W.cell? ⟨Bs, 0, none⟩ = some (.slice (some ⟨blk, off, none⟩) size c))
    (hc : ∀ t, t < size → W.cell? ⟨blk, off + t, none⟩ = some (.int .i64 (G t))) (i j : Nat) (hi : i < size) (hj : j < size) :
    Calls Try.prog 37 #[.int .i64 i, .int .i64 j, .pointer (some ⟨Bs, 0, none⟩)] W fun e w' => e = .returned (.bool (decide (G i < G j))) ∧ ∃ q, w' = W.drewN q := by
  have ci := hc i hi
  have cj := hc j hj
  go_enter Try.func37, Try.ntmps37
  go_wp2
  go_quiet (fail)
  go_wp2
  go_ret
  exact ⟨rfl, nq, rfl⟩
/-- what the sort leaves: the box and the row read, all else as it was -/
def SortedOf (d : Array Int) (blk c bx : Nat) (w : World) (e : Ending) (w' : World) : Prop :=
  e = .returned (.tuple #[]) ∧ w'.cell? ⟨bx, 0, none⟩ = some (.slice (some ⟨blk, 0, none⟩) d.size c) ∧ (∀ j, j < d.size → w'.cell? ⟨blk, j, none⟩ = some (.int .i64 (gt (srt d.toList) j))) ∧ ∀ B, B ≤ blk → B ≤ w.heap.size → Below B w w'
set_option maxHeartbeats 2000000 in
theorem sort_many (blk c bx : Nat) (d : Array Int) (h2 : 2 ≤ d.size) (hsz : d.size < 4611686018427387904) (w : World) (hbox : w.cell? ⟨bx, 0, none⟩ = some (.slice (some ⟨blk, 0, none⟩) d.size c)) (hne : bx ≠ blk) (hbx : bx < w.heap.size) (hH : Holds (Value.int .i64) w blk 0 d) (hblk : blk < w.heap.size) :
    Calls Try.prog 36 #[.iface 22 (.slice (some ⟨blk, 0, none⟩) d.size c), .func (.func 37) #[] #[.pointer (some ⟨bx, 0, none⟩)]] w (SortedOf d blk c bx w) := by
  have hboxS : ∀ (m : Nat) (os : Array Obj) (dk : Array Int), (grow (putRow (Value.int .i64) (Sort.ahead w m) blk 0 dk) os).cell? ⟨bx, 0, none⟩ = some (.slice (some ⟨blk, 0, none⟩) d.size c) := fun m os dk => by
    rw [cell?_grow _ _ _ (by rw [size_putRow]; exact hbx), cell?_putRow_other _ _ blk 0 dk _ (Or.inl hne)]
    exact hbox
  have hrowS : ∀ (m : Nat) (os : Array Obj) (dk : Array Int), dk.size = d.size → ∀ t, t < d.size → (grow (putRow (Value.int .i64) (Sort.ahead w m) blk 0 dk) os).cell? ⟨blk, 0 + t, none⟩ = some (.int .i64 dk[t]!) := fun m os dk hs t ht => by
    rw [cell?_grow _ _ _ (by rw [size_putRow]; exact hblk)]
    exact cell?_putRow _ _ blk 0 d dk (holds_ahead _ _ _ _ _ _ hH) hs t (by omega)
  have hless : LessReads Try.prog 37 #[.pointer (some ⟨bx, 0, none⟩)] (Value.int .i64) ltInt blk 0 d.size w := by
    intro m os dk hs i j hi hj
    exact less_any blk 0 c bx d.size _ (fun t => dk[t]!) (hboxS m os dk) (hrowS m os dk hs) i j hi hj
  have hS := Any.sort_Slice_sorted Try.laysGg6 22 2 siT siE (by kernel_rfl) (by kernel_rfl) (by kernel_rfl) (by kernel_rfl) 6 (fun _ => by kernel_rfl) (by kernel_rfl) (fun _ => by kernel_rfl) (Value.int .i64) (fun _ => rfl) ltInt swo_ltInt 37 _
    (enters_of Try.func37 (by kernel_rfl) rfl) blk 0 c d h2 hsz 53 (by rw [siK _ h2]; kernel_rfl) true
    (fun args W => run_callFunc_extern Try.func53 (by kernel_rfl) (by kernel_rfl) (by kernel_rfl) (e := Extern.ReflectliteSwapper.swap true) (by kernel_rfl) args W) w hless hH hblk
  change Calls Try.prog 36 _ _ _ at hS
  refine hS.mono ?_
  rintro e w' ⟨rfl, d', n, os, hp, hso, rfl⟩
  have hd := sorted_eq d d' hp hso
  have hl : d'.size = d.size := by rw [hd]; simp [srt_len]
  refine ⟨rfl, hboxS n os d', fun j hj => ?_, fun B hB1 hB2 => below_gr2 (Lib.below_putRow (Below.refl _ _) hB1) (by rw [size_putRow]; exact hB2) os⟩
  have := hrowS n os d' hl j hj
  have e : d'[j]! = gt (srt d.toList) j := by rw [hd]; exact srt_arr _ _ (by simpa using hj)
  rw [Nat.zero_add, e] at this
  exact this
set_option maxHeartbeats 2000000 in
theorem sort_one (blk c bx : Nat) (d : Array Int) (h2 : d.size = 1) (w : World) (hbox : w.cell? ⟨bx, 0, none⟩ = some (.slice (some ⟨blk, 0, none⟩) d.size c)) (hbx : bx < w.heap.size) (hH : Holds (Value.int .i64) w blk 0 d) (hblk : blk < w.heap.size) :
    Calls Try.prog 36 #[.iface 22 (.slice (some ⟨blk, 0, none⟩) d.size c), .func (.func 37) #[] #[.pointer (some ⟨bx, 0, none⟩)]] w (SortedOf d blk c bx w) := by
  have hK : Lib.swapperK d.size siE 6 = 2 := by rw [h2]; rfl
  have hS := Any.sort_Slice_tiny Try.laysGg6 22 2 siT siE (by kernel_rfl) (by kernel_rfl) (by kernel_rfl) (by kernel_rfl) 6 (fun _ => by kernel_rfl) (some ⟨blk, 0, none⟩) d.size c (by omega) 50 (by rw [hK]; kernel_rfl) (.func 37) #[] #[.pointer (some ⟨bx, 0, none⟩)] w
  change Calls Try.prog 36 _ _ _ at hS
  refine hS.mono ?_
  rintro e w' ⟨rfl, os, rfl⟩
  refine ⟨rfl, by rw [cell?_grow _ _ _ hbx]; exact hbox, fun j hj => ?_, fun B hB1 hB2 => below_gr2 (Below.refl _ _) hB2 os⟩
  obtain rfl : j = 0 := by omega
  obtain ⟨x, hx⟩ : ∃ x, d = #[x] := ⟨d[0], by
    apply Array.ext
    · simpa using h2
    · intro i h3 h4
      obtain rfl : i = 0 := by omega
      rfl⟩
  subst hx
  have := (hH 0 (by simp)).1
  have e : gt (srt #[x].toList) 0 = x := by simp [srt, gt]
  rw [cell?_grow _ _ _ hblk, e]
  exact this
theorem holds_own {B E : Nat} {w : World} {g : Nat} {zs : List Int} (h : OwnC B E w (some ⟨g, 0, none⟩) (ints zs)) : Holds (Value.int .i64) w g 0 zs.toArray := by
  intro j hj
  have hj' : j < zs.length := by simpa using hj
  obtain ⟨g', cur, T, hg', l1, l2, hg, hc⟩ := h (by rw [ints_len]; omega)
  cases hg'
  have e : zs.toArray[j]! = gt zs j := by rw [gt_at _ _ hj']; simp [hj']
  rw [Nat.zero_add, e]
  exact ⟨by rw [cell_of_row w g j cur T (0, 0) hg, hc j (by rw [ints_len]; exact hj'), ints_get _ _ hj'], frozen_of_row w g j cur T hg⟩
theorem sort_any (blk c bx : Nat) {B E : Nat} (zs : List Int) (h1 : 1 ≤ zs.length) (hm : zs.length ≤ 1048576) (w : World) (hbox : w.cell? ⟨bx, 0, none⟩ = some (.slice (some ⟨blk, 0, none⟩) zs.length c)) (hne : bx ≠ blk) (hbx : bx < w.heap.size) (hO : OwnC B E w (some ⟨blk, 0, none⟩) (ints zs)) (hblk : blk < w.heap.size) :
    Calls Try.prog 36 #[.iface 22 (.slice (some ⟨blk, 0, none⟩) zs.length c), .func (.func 37) #[] #[.pointer (some ⟨bx, 0, none⟩)]] w (SortedOf zs.toArray blk c bx w) := by
  by_cases h2 : 2 ≤ zs.length
  · exact sort_many blk c bx zs.toArray (by simpa using h2) (by simp; omega) w hbox hne hbx (holds_own hO) hblk
  · exact sort_one blk c bx zs.toArray (by simp; omega) w hbox hbx (holds_own hO) hblk
set_option maxHeartbeats 2000000 in
theorem implMiddle (w : World) (A : Option Addr) (c : Nat) (hs : List Int) (hA : RC w A (ints hs)) (hm : hs.length ≤ 1048576) (h1 : 1 ≤ hs.length) :
    Calls Try.prog 19 #[.slice A hs.length c] w fun e w' => e = .returned (.int .i64 (medV hs)) ∧ Below w.heap.size w w' := by
  have HA := Lib.hid hA
  clear hA
  have hlt := mid_lt h1
  have hmi := mid_int h1
  go_enter Try.func19, Try.ntmps19
  go_wp2_with (first
    | (go_at_call 35; refine (clone_any _ A c hs HA.out hm h1).mono ?_; rintro e w2 ⟨A1, k4, rfl, ho, hb2⟩; obtain ⟨g, cur, T, rfl, g1, g2, hg, hc⟩ := ho (by rw [ints_len]; omega); have HO := Lib.hid (show OwnC w.heap.size w2.heap.size w2 (some ⟨g, 0, none⟩) (ints hs) from fun _ => ⟨g, cur, T, rfl, g1, g2, hg, hc⟩); clear ho hg hc)
    | (go_at_call 36; refine (sort_any g k4 w2.heap.size hs h1 hm _ (by simp) (by omega) (by simp) (HO.out.alloc _) (by simp; omega)).mono ?_; rintro e w3 ⟨rfl, hbox0, hrow0, hbl0⟩; have hbox : w3.cell? ⟨w2.heap.size, 0, none⟩ = some (.slice (some ⟨g, 0, none⟩) hs.length k4) := hbox0; have f1 : w3.cell? ⟨g, (hs.length - 1) / 2, none⟩ = some (.int .i64 (medV hs)) := hrow0 _ (by simpa using hlt); have hbl := hbl0 w.heap.size g1 (by have := hb2.size; simp; omega); clear hbox0 hrow0 hbl0))
  go_ret
  exact ⟨rfl, (bl_alloc hb2 _).trans hbl⟩
-- printed by gen/med.py
set_option maxHeartbeats 800000 in
theorem implMedian (w : World) (A : Option Addr) (c : Nat) (zs : List Int) (hA : RC w A (ints zs)) (hm : zs.length ≤ 1048576) :
    Calls Try.prog 8 #[.slice A zs.length c] w fun e w' => e = .returned (.tuple #[.int .i64 (medX zs), .int .i64 (medC zs)]) ∧ Below w.heap.size w w' := by
  have HA := Lib.hid hA
  clear hA
  cases hv : gaugesOk zs
  · have H := Lib.hid (med_bad hv)
    go_enter Try.func8, Try.ntmps8
    go_wp2_with ((go_at_call 18; refine (areGauges_any _ _ _ _ HA.out hm).mono ?_; rintro e w' ⟨rfl, rfl⟩))
    go_ret2
    exact ⟨ret_med H.out.1.symm H.out.2.symm, by repeat (first | exact Below.refl _ _ | assumption | apply bl_alloc | apply bl_drewN | apply Below.drew | (refine bl_set ?_ (by first | exact Nat.le_refl _ | (simp; done) | (simp; omega)) _) | (refine bl_trans ?_ (by assumption)))⟩
  · by_cases h0 : zs.length = 0
    · have H := Lib.hid (med_none hv h0)
      have hq := beq0_yes h0
      clear h0
      go_enter Try.func8, Try.ntmps8
      go_wp2_with ((go_at_call 18; refine (areGauges_any _ _ _ _ HA.out hm).mono ?_; rintro e w' ⟨rfl, rfl⟩))
      go_ret2
      exact ⟨ret_med H.out.1.symm H.out.2.symm, by repeat (first | exact Below.refl _ _ | assumption | apply bl_alloc | apply bl_drewN | apply Below.drew | (refine bl_set ?_ (by first | exact Nat.le_refl _ | (simp; done) | (simp; omega)) _) | (refine bl_trans ?_ (by assumption)))⟩
    · have H := Lib.hid (med_ok hv h0)
      have hq := beq0_no h0
      have hpos : 1 ≤ zs.length := by omega
      go_enter Try.func8, Try.ntmps8
      go_wp2_with (first | (go_at_call 18; refine (areGauges_any _ _ _ _ HA.out hm).mono ?_; rintro e w' ⟨rfl, rfl⟩) | (go_at_call 19; refine (implMiddle _ _ _ _ HA.out hm hpos).mono ?_; rintro e w1 ⟨rfl, hb1⟩))
      go_ret2
      exact ⟨ret_med H.out.1.symm H.out.2.symm, by repeat (first | exact Below.refl _ _ | assumption | apply bl_alloc | apply bl_drewN | apply Below.drew | (refine bl_set ?_ (by first | exact Nat.le_refl _ | (simp; done) | (simp; omega)) _) | (refine bl_trans ?_ (by assumption)))⟩
end Go.Proofs.Ytfkleaagpflpkaa
