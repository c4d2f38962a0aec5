/-
  Contract of the library's replacer of bytes: its table is built.
-/
import Derived.Test.YtcjfdfjimcapkaaGreatDoorBuild
import Derived.Test.YtcjfdfjimcapkaaGreatDoorPair
import Derived.Test.YtcjfdfjimcapkaaGreatDoorDecPlain
import Derived.Lib.BufferRead
import Derived.Deep.WholeRow
import Derived.Lib.ConvBytes
import Derived.Lib.JoinLaws
namespace Go.Proofs.YtcjfdfjimcapkaaGreatDoor
set_option linter.unusedVariables false
set_option linter.unusedSimpArgs false
open Go.RowKit

open Go.Lib
/-- the table, all empty -/
def tab0 : Array Value := Array.replicate 257 (.slice none 0 0)
theorem tabInfo : (Tryz.prog.info? 88).map (fun i => (i.zero, i.size)) = some (some (.agg tab0), 257) := by kernel_rfl
theorem tab_build (P : Program) (h : P = Tryz.prog) (v : Value) (hv : v.cells = #[v]) (w : World) : (Instr.build 88 #[(1, v)]).run P w = .ok (.agg (tab0.setIfInBounds 256 v)) w := by
  subst h
  have hz := (zero_of_info tabInfo).1
  simp only [Instr.build, Sem.run_bind, hz, Result.andThen, Value.cells, run_underlying Tryz.underlying88]
  simp [Tryz.sizeOf25, Tryz.sizeOf86, Instr.fill, hv, Result.andThen, tab0]
theorem tab_one (v : Value) (hv : v.oneCell' = true) : (tab0.setIfInBounds 256 v).all (·.oneCell') = true := by
  rw [Array.all_eq_true_iff_forall_mem]
  intro x hx
  rcases Array.mem_or_eq_of_mem_setIfInBounds hx with h | h
  · rw [tab0, Array.mem_replicate] at h
    rw [h.2]; rfl
  · rw [h]; exact hv
theorem tab_store (W : World) (a : Option Addr) (n c : Nat) : (storeCells ⟨W.heap.size, 0, none⟩ (tab0.setIfInBounds 256 (.slice a n c)).toList 0).run Tryz.prog (W.alloc (.cells tab0 88)) = .ok () (W.alloc (.cells (tab0.setIfInBounds 256 (.slice a n c)) 88)) :=
  run_storeCells_new W 88 tab0 _ (by rw [(zero_of_info tabInfo).2]; simp [tab0]) (by simp) (tab_one _ rfl)
/-- which bytes have been struck out after k rounds; the texts that have been laid -/
def hitK (k j : Nat) : Bool := (decide (1 ≤ k) && j == 109) || (decide (2 ≤ k) && j == 46) || (decide (3 ≤ k) && j == 43)
def trT : List Value := [.string ⟨#[109]⟩, .string ⟨#[46]⟩, .string ⟨#[43]⟩]
/-- the table in block p, its texts in block G -/
def Tab (p G c : Nat) (w : World) : Prop :=
  ∃ zt cur, w.heap[p]? = some (.cells zt 88 (0, 0)) ∧ (∀ j, j < 256 → ∃ a c', zt[j]? = some (.slice a 0 c') ∧ a.isSome = hitK 3 j) ∧ zt[256]? = some (.slice (some ⟨G, 0, none⟩) 3 c) ∧ w.heap[G]? = some (.cells cur 9 (0, 0)) ∧ ∀ j, j < 3 → cur[j]? = trT[j]?
def NewTab (w : World) (e : Ending) (w' : World) : Prop :=
  ∃ p G c, e = .returned (.iface 89 (.pointer (some ⟨p, 0, none⟩))) ∧ w.heap.size ≤ p ∧ w.heap.size ≤ G ∧ Tab p G c w' ∧ Below w.heap.size w w'
theorem own_below {w w1 : World} {B T n sz : Nat} {v : Value} {xs : List Value} (h : w.ownsRow B T sz v n xs) (hb : Below w.heap.size w w1) : w1.ownsRow B T sz v n xs :=
  h.kept ⟨hb.os, hb.tape, hb.output, hb.size, fun k hk _ => hb.block k hk⟩ (by cases v.ownBlock <;> simp : v.ownBlock = none ∨ v.ownBlock ≠ none)
theorem conv_empty (W : World) : ∃ W' h c', (convert 9 65 (.string ⟨#[]⟩)).run Tryz.prog W = .ok (.slice (some ⟨h, 0, none⟩) 0 c') W' ∧ Below W.heap.size W W' ∧ W.heap.size < W'.heap.size := by
  refine ⟨_, _, _, Go.Lib.run_convert_string_bytes W 9 65 5 ⟨#[]⟩ Tryz.underlying9 Tryz.underlying65 Tryz.underlying5, ⟨rfl, rfl, rfl, ?_, fun k hk => bytesWorld_at_old _ _ _ _ hk⟩, ?_⟩ <;> rw [bytesWorld_size] <;> omega
theorem str_one (s : ByteArray) : ∀ u ∈ [Value.string s], u.oneCell' = true := by
  intro u hu
  simp at hu
  subst hu
  rfl
theorem new2R (W : World) (o1 o2 : Obj) : ((W.alloc o1).alloc o2).heap[W.heap.size + 1]? = some o2 := by simpa using heap_alloc_new (W.alloc o1) o2
theorem tab_set {k o : Nat} {zt : Array Value} {h c : Nat} {S : Value} (hk : ∀ j, j < 256 → hitK (k + 1) j = (hitK k j || j == o)) (ho : o < 256) (hz : zt.size = 257) (hr : ∀ j, j < 256 → ∃ a c', zt[j]? = some (.slice a 0 c') ∧ a.isSome = hitK k j) :
    (∀ j, j < 256 → ∃ a c', ((zt.setIfInBounds 256 S).setIfInBounds o (.slice (some ⟨h, 0, none⟩) 0 c))[j]? = some (.slice a 0 c') ∧ a.isSome = hitK (k + 1) j) ∧ ((zt.setIfInBounds 256 S).setIfInBounds o (.slice (some ⟨h, 0, none⟩) 0 c))[256]? = some S := by
  constructor
  · intro j hj
    rw [hk j hj, Array.getElem?_setIfInBounds, Array.getElem?_setIfInBounds]
    by_cases e : o = j
    · subst e
      rw [if_pos rfl, if_pos (by simp; omega)]
      exact ⟨_, _, rfl, by simp⟩
    · rw [if_neg e, if_neg (by omega)]
      obtain ⟨a, c', h1, h2⟩ := hr j hj
      exact ⟨a, c', h1, by rw [h2]; have : (j == o) = false := by simp; omega
                           rw [this, Bool.or_false]⟩
  · rw [Array.getElem?_setIfInBounds, if_neg (by omega), Array.getElem?_setIfInBounds, if_pos rfl, if_pos (by omega)]
set_option maxRecDepth 100000 in
theorem build_any (w : World) (b A : Nat) (x : Int) (hR : Repl x b A w) :
    Calls Tryz.prog 39 #[.pointer (some ⟨b, 0, none⟩)] w (NewTab w) := by
  obtain ⟨i0, hi, hz0, hz1, hz2⟩ := info_parts infoTxt
  obtain ⟨cap, cur, kb, kA, hcur, hne⟩ := hR
  have c4 := cell_of_row w b 4 _ _ (0, 0) kb
  simp at c4
  have s0 : w.cell? ⟨A, 0, none⟩ = some (.string ⟨#[43]⟩) := by rw [cell_of_row w A 0 _ _ (0, 0) kA, hcur 0 (by omega)]; rfl
  have s1 : w.cell? ⟨A, 1, none⟩ = some (.string ⟨#[]⟩) := by rw [cell_of_row w A 1 _ _ (0, 0) kA, hcur 1 (by omega)]; rfl
  have s2 : w.cell? ⟨A, 2, none⟩ = some (.string ⟨#[46]⟩) := by rw [cell_of_row w A 2 _ _ (0, 0) kA, hcur 2 (by omega)]; rfl
  have s3 : w.cell? ⟨A, 3, none⟩ = some (.string ⟨#[]⟩) := by rw [cell_of_row w A 3 _ _ (0, 0) kA, hcur 3 (by omega)]; rfl
  have s4 : w.cell? ⟨A, 4, none⟩ = some (.string ⟨#[109]⟩) := by rw [cell_of_row w A 4 _ _ (0, 0) kA, hcur 4 (by omega)]; rfl
  have s5 : w.cell? ⟨A, 5, none⟩ = some (.string ⟨#[]⟩) := by rw [cell_of_row w A 5 _ _ (0, 0) kA, hcur 5 (by omega)]; rfl
  obtain ⟨zc, hzc⟩ : ∃ zc, tab0 = zc := ⟨_, rfl⟩
  have HZ := Lib.hid hzc
  have hzv := (zero_of_info tabInfo).1
  have hbd : ∀ a n c w, (Instr.build 88 #[(1, .slice a n c)]).run Tryz.prog w = .ok (.agg (tab0.setIfInBounds 256 (.slice a n c))) w := fun a n c w => tab_build Tryz.prog rfl _ rfl w
  have hst : ∀ (W : World) (o : Obj) (a : Option Addr) (n c : Nat), (storeCells ⟨W.heap.size + 1, 0, none⟩ (tab0.toList.set 256 (.slice a n c)) 0).run Tryz.prog ((W.alloc o).alloc (.cells tab0 88)) = .ok () ((W.alloc o).alloc (.cells (tab0.setIfInBounds 256 (.slice a n c)) 88)) := fun W o a n c => by have h := tab_store (W.alloc o) a n c; rw [Array.toList_setIfInBounds] at h; simpa using h
  have hzs : zc.size = 257 := by rw [← hzc]; simp [tab0]
  rw [hzc] at hzv hbd hst
  have hmk : ∀ W, (Instr.makeSlice 25 (.int .i64 0) (.int .i64 3)).run Tryz.prog W = .ok (.slice (some ⟨W.heap.size, 0, none⟩) 0 3) (W.alloc (.cells (madeCells #[.string ⟨#[]⟩] 3) 9)) := fun W => run_make_room (P := Tryz.prog) 25 9 (.string ⟨#[]⟩) 16 Tryz.underlying25 infoTxt rfl .i64 .i64 3 (by decide) (by decide) W
  clear hzc
  go_enter Tryz.func39, Tryz.ntmps39
  go_wp2
  go_loopg [4, 5] 3 (fun m v4 v5 wr => ∃ k, k ≤ 3 ∧ m = 3 - k ∧ v4 = .bool (decide (k = 0)) ∧ v5 = .int .i64 (2 * (k : Int)) ∧ w = wr)
  case atStart => exact ⟨0, by omega, rfl, rfl, rfl, rfl⟩
  case round =>
    obtain ⟨k, hk, hgk, rfl, rfl, rfl⟩ := hrel
    have HGK := Lib.hid hgk
    clear hgk
    rcases (show k = 0 ∨ k = 1 ∨ k = 2 ∨ k = 3 by omega) with rfl | rfl | rfl | rfl
    · go_wp2
      go_roundg (3 - (0 + 1))
      case measure => rw [HGK.out]; decide
      case rel => exact ⟨0 + 1, by decide, rfl, by rfl, by rfl, rfl⟩
    · go_wp2
      go_roundg (3 - (1 + 1))
      case measure => rw [HGK.out]; decide
      case rel => exact ⟨1 + 1, by decide, rfl, by rfl, by rfl, rfl⟩
    · go_wp2
      go_roundg (3 - (2 + 1))
      case measure => rw [HGK.out]; decide
      case rel => exact ⟨2 + 1, by decide, rfl, by rfl, by rfl, rfl⟩
    · have hAl : A < w.heap.size := (Array.getElem?_eq_some_iff.1 kA).1
      have hown0 : ((w.alloc (.cells (madeCells #[.string ⟨#[]⟩] 3) 9)).alloc (.cells (zc.setIfInBounds 256 (.slice (some ⟨w.heap.size, 0, none⟩) 0 3)) 88)).ownsRow w.heap.size 9 1 (.slice (some ⟨w.heap.size, 0, none⟩) 0 3) 0 [] := (World.ownsRow_made w _ 3 (Nat.le_refl _) (by decide) (size_madeCells _ _)).alloc _
      go_wp2
      go_loopg [12] 3 (fun m v12 wr => ∃ k zt G c, k ≤ 3 ∧ m = 3 - k ∧ v12 = .int .i64 (4 - 2 * (k : Int)) ∧ wr.heap[(w.heap.size + 1)]? = some (.cells zt 88 (0, 0)) ∧ zt.size = 257 ∧ (∀ j, j < 256 → ∃ a c', zt[j]? = some (.slice a 0 c') ∧ a.isSome = hitK k j) ∧ zt[256]? = some (.slice (some ⟨G, 0, none⟩) k c) ∧ wr.ownsRow w.heap.size 9 1 (.slice (some ⟨G, 0, none⟩) k c) k (trT.take k) ∧ G ≠ (w.heap.size + 1) ∧ Below w.heap.size w wr)
      case atStart => exact ⟨0, _, w.heap.size, 3, by omega, rfl, rfl, new2R _ _ _, by simpa using hzs, fun j hj => ⟨none, 0, by rw [Array.getElem?_setIfInBounds, if_neg (by omega), ← HZ.out, tab0, Array.getElem?_replicate, if_pos (by omega)], by simp [hitK]⟩, by rw [Array.getElem?_setIfInBounds, if_pos rfl, if_pos (by omega)], hown0, by omega, by repeat (first | exact Below.refl _ _ | assumption | apply bl_alloc | apply bl_drewN | apply Below.drew | (refine bl_set ?_ (by first | exact Nat.le_refl _ | (simp; done) | (simp; omega)) _) | (refine bl_trans ?_ (by assumption)))⟩
      case round =>
        obtain ⟨k, zt, G, c, hk', hgk, rfl, kp, hzt, hrow, h256, hown, hGp, hbw⟩ := hrel
        have HGK2 := Lib.hid hgk
        clear hgk
        rcases (show k = 0 ∨ k = 1 ∨ k = 2 ∨ k = 3 by omega) with rfl | rfl | rfl | rfl
        · have e0 := (hbw.cell (p := ⟨A, 4, none⟩) hAl).trans s4
          have e1 := (hbw.cell (p := ⟨A, 5, none⟩) hAl).trans s5
          have hb0 : ((⟨#[109]⟩ : ByteArray)[0]'(by decide)).toNat = 109 := rfl
          obtain ⟨az, cz, hz3, hz4⟩ := hrow 109 (by decide)
          obtain rfl : az = none := by simpa [hitK] using hz4
          have e2 : wr.cell? ⟨(w.heap.size + 1), 109, none⟩ = some (.slice none 0 cz) := by rw [cell_of_row wr _ 109 _ _ (0, 0) kp]; exact hz3
          have e3 : wr.cell? ⟨(w.heap.size + 1), 256, none⟩ = some (.slice (some ⟨G, 0, none⟩) 0 c) := by rw [cell_of_row wr _ 256 _ _ (0, 0) kp]; exact h256
          have q65 : ∀ W, (binOp .eql 65 (.slice none 0 cz) (.slice none 0 0)).run Tryz.prog W = .ok (.bool true) W := fun W => Lib.run_eql_slice_nil W _ _ none 0 cz 0 0 Tryz.underlying65
          have hcv : (convert 65 9 (.slice (some ⟨wr.heap.size, 0, none⟩) 1 1)).run Tryz.prog (wr.alloc (.cells #[.int .u8 109] 5)) = .ok (.string ⟨#[109]⟩) (wr.alloc (.cells #[.int .u8 109] 5)) :=
            run_convert_bytes_back (P := Tryz.prog) _ 65 9 5 ⟨wr.heap.size, 0, none⟩ 1 [109] Tryz.underlying65 Tryz.underlying5 Tryz.underlying9 (bytes_of_row (l := [109]) (heap_alloc_new wr _) rfl)
          have HO := Lib.hid hown
          have KP := Lib.hid kp
          have HROW := Lib.hid hrow
          have kpl := (Array.getElem?_eq_some_iff.1 kp).1
          clear hown kp hrow
          go_wp2_with (at_builtin; refine wpList_append_lies _ rfl _ _ 25 rfl w.heap.size 9 i0 (.string ⟨#[]⟩) 1 16 Tryz.underlying25 hi hz0 hz1 hz2 rfl (by decide) _ _ _ rfl ((HO.out.alloc _).alloc _) ⟨wr.heap.size + 1, 0, none⟩ 1 1 [.string ⟨#[109]⟩] rfl rfl (app_news (new2R wr _ _)) (str_one _) (by decide) (by decide) (by decide) (by first | omega | (simp; done) | (simp; omega)) (wr.heap.size + 1 + 1) (by simp) ?_; intro g9 cap9 w9 hown9 hgrow9 hat9 hlt9; have kp9 : w9.heap[(w.heap.size + 1)]? = some (.cells zt 88 (0, 0)) := (hgrow9.block _ (Array.getElem?_eq_some_iff.1 (blk_old (blk_old KP.out))).1 (fun e => hGp (Option.some.inj e).symm)).trans (blk_old (blk_old KP.out)); have R9 : Below w.heap.size w w9 := app_belowB (bl_alloc (bl_alloc hbw _) _) ((HO.out.alloc _).alloc _) (Nat.le_refl _) hgrow9; have hg9 : g9 ≠ (w.heap.size + 1) := (by rcases hat9 with e | e <;> first | omega | exact fun e' => hGp (by rw [← e']; exact Option.some.inj e)); have K9 := heap_setCell_same _ _ 256 _ _ (.slice (some ⟨g9, 0, none⟩) 1 cap9) kp9; have x3 : w9.cell? ⟨(w.heap.size + 1), 256, none⟩ = some (.slice (some ⟨G, 0, none⟩) 0 c) := (by rw [cell_of_row w9 _ 256 _ _ (0, 0) kp9]; exact h256); have y3 : w9.frozen? ⟨(w.heap.size + 1), 256, none⟩ = false := frozen_of_row w9 _ 256 _ _ kp9; obtain ⟨W', h9, c9, hcv2, hb9, hs9⟩ := conv_empty (w9.setCell ⟨(w.heap.size + 1), 256, none⟩ (.slice (some ⟨g9, 0, none⟩) 1 cap9)); have kW := keep_blk (hb := hb9) (h := K9); have x4 : W'.cell? ⟨(w.heap.size + 1), 109, none⟩ = some (.slice none 0 cz) := (by rw [cell_of_row W' _ 109 _ _ (0, 0) kW, Array.getElem?_setIfInBounds, if_neg (by decide)]; exact hz3); have y4 : W'.frozen? ⟨(w.heap.size + 1), 109, none⟩ = false := frozen_of_row W' _ 109 _ _ kW; have O9 := own_below (own_setCell (p := ⟨(w.heap.size + 1), 256, none⟩) hown9 (fun g e => by cases e; exact hg9) (.slice (some ⟨g9, 0, none⟩) 1 cap9)) hb9; have R9b : Below w.heap.size w W' := bl_trans (bl_set (p := ⟨(w.heap.size + 1), 256, none⟩) R9 (Nat.le_succ _) (.slice (some ⟨g9, 0, none⟩) 1 cap9)) hb9; clear hgrow9 hat9)
          go_roundg (3 - (0 + 1))
          case measure => rw [HGK2.out]; decide
          case rel => exact ⟨0 + 1, _, g9, cap9, by decide, rfl, rfl, heap_setCell_same _ _ 109 _ _ _ kW, by simpa using hzt, (tab_set (k := 0) (o := 109) (by decide) (by decide) hzt HROW.out).1, (tab_set (k := 0) (o := 109) (by decide) (by decide) hzt HROW.out).2, own_setCell (p := ⟨(w.heap.size + 1), 109, none⟩) O9 (fun g e => by cases e; exact hg9) _, hg9, bl_set (p := ⟨(w.heap.size + 1), 109, none⟩) R9b (Nat.le_succ _) _⟩
        · have e0 := (hbw.cell (p := ⟨A, 2, none⟩) hAl).trans s2
          have e1 := (hbw.cell (p := ⟨A, 3, none⟩) hAl).trans s3
          have hb0 : ((⟨#[46]⟩ : ByteArray)[0]'(by decide)).toNat = 46 := rfl
          obtain ⟨az, cz, hz3, hz4⟩ := hrow 46 (by decide)
          obtain rfl : az = none := by simpa [hitK] using hz4
          have e2 : wr.cell? ⟨(w.heap.size + 1), 46, none⟩ = some (.slice none 0 cz) := by rw [cell_of_row wr _ 46 _ _ (0, 0) kp]; exact hz3
          have e3 : wr.cell? ⟨(w.heap.size + 1), 256, none⟩ = some (.slice (some ⟨G, 0, none⟩) 1 c) := by rw [cell_of_row wr _ 256 _ _ (0, 0) kp]; exact h256
          have q65 : ∀ W, (binOp .eql 65 (.slice none 0 cz) (.slice none 0 0)).run Tryz.prog W = .ok (.bool true) W := fun W => Lib.run_eql_slice_nil W _ _ none 0 cz 0 0 Tryz.underlying65
          have hcv : (convert 65 9 (.slice (some ⟨wr.heap.size, 0, none⟩) 1 1)).run Tryz.prog (wr.alloc (.cells #[.int .u8 46] 5)) = .ok (.string ⟨#[46]⟩) (wr.alloc (.cells #[.int .u8 46] 5)) :=
            run_convert_bytes_back (P := Tryz.prog) _ 65 9 5 ⟨wr.heap.size, 0, none⟩ 1 [46] Tryz.underlying65 Tryz.underlying5 Tryz.underlying9 (bytes_of_row (l := [46]) (heap_alloc_new wr _) rfl)
          have HO := Lib.hid hown
          have KP := Lib.hid kp
          have HROW := Lib.hid hrow
          have kpl := (Array.getElem?_eq_some_iff.1 kp).1
          clear hown kp hrow
          go_wp2_with (at_builtin; refine wpList_append_lies _ rfl _ _ 25 rfl w.heap.size 9 i0 (.string ⟨#[]⟩) 1 16 Tryz.underlying25 hi hz0 hz1 hz2 rfl (by decide) _ _ _ rfl ((HO.out.alloc _).alloc _) ⟨wr.heap.size + 1, 0, none⟩ 1 1 [.string ⟨#[46]⟩] rfl rfl (app_news (new2R wr _ _)) (str_one _) (by decide) (by decide) (by decide) (by first | omega | (simp; done) | (simp; omega)) (wr.heap.size + 1 + 1) (by simp) ?_; intro g9 cap9 w9 hown9 hgrow9 hat9 hlt9; have kp9 : w9.heap[(w.heap.size + 1)]? = some (.cells zt 88 (0, 0)) := (hgrow9.block _ (Array.getElem?_eq_some_iff.1 (blk_old (blk_old KP.out))).1 (fun e => hGp (Option.some.inj e).symm)).trans (blk_old (blk_old KP.out)); have R9 : Below w.heap.size w w9 := app_belowB (bl_alloc (bl_alloc hbw _) _) ((HO.out.alloc _).alloc _) (Nat.le_refl _) hgrow9; have hg9 : g9 ≠ (w.heap.size + 1) := (by rcases hat9 with e | e <;> first | omega | exact fun e' => hGp (by rw [← e']; exact Option.some.inj e)); have K9 := heap_setCell_same _ _ 256 _ _ (.slice (some ⟨g9, 0, none⟩) 2 cap9) kp9; have x3 : w9.cell? ⟨(w.heap.size + 1), 256, none⟩ = some (.slice (some ⟨G, 0, none⟩) 1 c) := (by rw [cell_of_row w9 _ 256 _ _ (0, 0) kp9]; exact h256); have y3 : w9.frozen? ⟨(w.heap.size + 1), 256, none⟩ = false := frozen_of_row w9 _ 256 _ _ kp9; obtain ⟨W', h9, c9, hcv2, hb9, hs9⟩ := conv_empty (w9.setCell ⟨(w.heap.size + 1), 256, none⟩ (.slice (some ⟨g9, 0, none⟩) 2 cap9)); have kW := keep_blk (hb := hb9) (h := K9); have x4 : W'.cell? ⟨(w.heap.size + 1), 46, none⟩ = some (.slice none 0 cz) := (by rw [cell_of_row W' _ 46 _ _ (0, 0) kW, Array.getElem?_setIfInBounds, if_neg (by decide)]; exact hz3); have y4 : W'.frozen? ⟨(w.heap.size + 1), 46, none⟩ = false := frozen_of_row W' _ 46 _ _ kW; have O9 := own_below (own_setCell (p := ⟨(w.heap.size + 1), 256, none⟩) hown9 (fun g e => by cases e; exact hg9) (.slice (some ⟨g9, 0, none⟩) 2 cap9)) hb9; have R9b : Below w.heap.size w W' := bl_trans (bl_set (p := ⟨(w.heap.size + 1), 256, none⟩) R9 (Nat.le_succ _) (.slice (some ⟨g9, 0, none⟩) 2 cap9)) hb9; clear hgrow9 hat9)
          go_roundg (3 - (1 + 1))
          case measure => rw [HGK2.out]; decide
          case rel => exact ⟨1 + 1, _, g9, cap9, by decide, rfl, rfl, heap_setCell_same _ _ 46 _ _ _ kW, by simpa using hzt, (tab_set (k := 1) (o := 46) (by decide) (by decide) hzt HROW.out).1, (tab_set (k := 1) (o := 46) (by decide) (by decide) hzt HROW.out).2, own_setCell (p := ⟨(w.heap.size + 1), 46, none⟩) O9 (fun g e => by cases e; exact hg9) _, hg9, bl_set (p := ⟨(w.heap.size + 1), 46, none⟩) R9b (Nat.le_succ _) _⟩
        · have e0 := (hbw.cell (p := ⟨A, 0, none⟩) hAl).trans s0
          have e1 := (hbw.cell (p := ⟨A, 1, none⟩) hAl).trans s1
          have hb0 : ((⟨#[43]⟩ : ByteArray)[0]'(by decide)).toNat = 43 := rfl
          obtain ⟨az, cz, hz3, hz4⟩ := hrow 43 (by decide)
          obtain rfl : az = none := by simpa [hitK] using hz4
          have e2 : wr.cell? ⟨(w.heap.size + 1), 43, none⟩ = some (.slice none 0 cz) := by rw [cell_of_row wr _ 43 _ _ (0, 0) kp]; exact hz3
          have e3 : wr.cell? ⟨(w.heap.size + 1), 256, none⟩ = some (.slice (some ⟨G, 0, none⟩) 2 c) := by rw [cell_of_row wr _ 256 _ _ (0, 0) kp]; exact h256
          have q65 : ∀ W, (binOp .eql 65 (.slice none 0 cz) (.slice none 0 0)).run Tryz.prog W = .ok (.bool true) W := fun W => Lib.run_eql_slice_nil W _ _ none 0 cz 0 0 Tryz.underlying65
          have hcv : (convert 65 9 (.slice (some ⟨wr.heap.size, 0, none⟩) 1 1)).run Tryz.prog (wr.alloc (.cells #[.int .u8 43] 5)) = .ok (.string ⟨#[43]⟩) (wr.alloc (.cells #[.int .u8 43] 5)) :=
            run_convert_bytes_back (P := Tryz.prog) _ 65 9 5 ⟨wr.heap.size, 0, none⟩ 1 [43] Tryz.underlying65 Tryz.underlying5 Tryz.underlying9 (bytes_of_row (l := [43]) (heap_alloc_new wr _) rfl)
          have HO := Lib.hid hown
          have KP := Lib.hid kp
          have HROW := Lib.hid hrow
          have kpl := (Array.getElem?_eq_some_iff.1 kp).1
          clear hown kp hrow
          go_wp2_with (at_builtin; refine wpList_append_lies _ rfl _ _ 25 rfl w.heap.size 9 i0 (.string ⟨#[]⟩) 1 16 Tryz.underlying25 hi hz0 hz1 hz2 rfl (by decide) _ _ _ rfl ((HO.out.alloc _).alloc _) ⟨wr.heap.size + 1, 0, none⟩ 1 1 [.string ⟨#[43]⟩] rfl rfl (app_news (new2R wr _ _)) (str_one _) (by decide) (by decide) (by decide) (by first | omega | (simp; done) | (simp; omega)) (wr.heap.size + 1 + 1) (by simp) ?_; intro g9 cap9 w9 hown9 hgrow9 hat9 hlt9; have kp9 : w9.heap[(w.heap.size + 1)]? = some (.cells zt 88 (0, 0)) := (hgrow9.block _ (Array.getElem?_eq_some_iff.1 (blk_old (blk_old KP.out))).1 (fun e => hGp (Option.some.inj e).symm)).trans (blk_old (blk_old KP.out)); have R9 : Below w.heap.size w w9 := app_belowB (bl_alloc (bl_alloc hbw _) _) ((HO.out.alloc _).alloc _) (Nat.le_refl _) hgrow9; have hg9 : g9 ≠ (w.heap.size + 1) := (by rcases hat9 with e | e <;> first | omega | exact fun e' => hGp (by rw [← e']; exact Option.some.inj e)); have K9 := heap_setCell_same _ _ 256 _ _ (.slice (some ⟨g9, 0, none⟩) 3 cap9) kp9; have x3 : w9.cell? ⟨(w.heap.size + 1), 256, none⟩ = some (.slice (some ⟨G, 0, none⟩) 2 c) := (by rw [cell_of_row w9 _ 256 _ _ (0, 0) kp9]; exact h256); have y3 : w9.frozen? ⟨(w.heap.size + 1), 256, none⟩ = false := frozen_of_row w9 _ 256 _ _ kp9; obtain ⟨W', h9, c9, hcv2, hb9, hs9⟩ := conv_empty (w9.setCell ⟨(w.heap.size + 1), 256, none⟩ (.slice (some ⟨g9, 0, none⟩) 3 cap9)); have kW := keep_blk (hb := hb9) (h := K9); have x4 : W'.cell? ⟨(w.heap.size + 1), 43, none⟩ = some (.slice none 0 cz) := (by rw [cell_of_row W' _ 43 _ _ (0, 0) kW, Array.getElem?_setIfInBounds, if_neg (by decide)]; exact hz3); have y4 : W'.frozen? ⟨(w.heap.size + 1), 43, none⟩ = false := frozen_of_row W' _ 43 _ _ kW; have O9 := own_below (own_setCell (p := ⟨(w.heap.size + 1), 256, none⟩) hown9 (fun g e => by cases e; exact hg9) (.slice (some ⟨g9, 0, none⟩) 3 cap9)) hb9; have R9b : Below w.heap.size w W' := bl_trans (bl_set (p := ⟨(w.heap.size + 1), 256, none⟩) R9 (Nat.le_succ _) (.slice (some ⟨g9, 0, none⟩) 3 cap9)) hb9; clear hgrow9 hat9)
          go_roundg (3 - (2 + 1))
          case measure => rw [HGK2.out]; decide
          case rel => exact ⟨2 + 1, _, g9, cap9, by decide, rfl, rfl, heap_setCell_same _ _ 43 _ _ _ kW, by simpa using hzt, (tab_set (k := 2) (o := 43) (by decide) (by decide) hzt HROW.out).1, (tab_set (k := 2) (o := 43) (by decide) (by decide) hzt HROW.out).2, own_setCell (p := ⟨(w.heap.size + 1), 43, none⟩) O9 (fun g e => by cases e; exact hg9) _, hg9, bl_set (p := ⟨(w.heap.size + 1), 43, none⟩) R9b (Nat.le_succ _) _⟩
        · go_wp2
          go_ret
          rcases hown.2 with ⟨h0, _⟩ | ⟨g', cap', cur', e0, hb, hgA, hn, hm, hs, ht⟩
          · cases h0
          · injection e0 with e1 e2 e3
            injection e1 with e1
            injection e1 with e1
            subst e1
            refine ⟨w.heap.size + 1, G, c, rfl, Nat.le_succ _, hb, ⟨zt, cur', kp, hrow, h256, hgA, fun j hj => ?_⟩, hbw⟩
            have h := congrArg (fun l => l[j]?) ht
            simp only [List.getElem?_take] at h
            rw [if_pos (by omega), if_pos (by omega)] at h
            simpa using h

end Go.Proofs.YtcjfdfjimcapkaaGreatDoor
