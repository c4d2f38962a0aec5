/-
  Contract on the words of a text: the program's. It holds for every text of at most 1048576 bytes, where a variable of the library holds some number.
-/
import Derived.Test.YtfkleaagpflpkaaDoorSplit
import Derived.Test.YtfkleaagpflpkaaDoorBld
import Derived.Test.YtfkleaagpflpkaaDoorShelf4
import Derived.Deep.AppendLies
namespace Go.Proofs.YtfkleaagpflpkaaDoor
set_option linter.unusedVariables false
open Go.RowKit
/-- the library's parts of a text, in our words -/
theorem split_is (s : ByteArray) : (Lib.splitB ⟨#[32]⟩ 0 (Lib.countB s ⟨#[32]⟩) s).map Value.string = (spl 32 s.data.toList).map sV := by
  have h := Lib.splitB_data ⟨#[32]⟩ 0 (Lib.countB s ⟨#[32]⟩) s
  have h2 : Lib.splitK [32] 0 (Lib.count s.data.toList [32]) s.data.toList = spl 32 s.data.toList := splitK_spl 32 _
  have h3 : (Lib.splitB ⟨#[32]⟩ 0 (Lib.countB s ⟨#[32]⟩) s).map (·.data.toList) = spl 32 s.data.toList := h.trans h2
  rw [← h3, List.map_map]
  exact List.map_congr_left fun x _ => by
    show Value.string x = sV x.data.toList
    rw [sV, Lib.mk_data]
theorem split_len (s : ByteArray) : Lib.countB s ⟨#[32]⟩ + 1 = (spl 32 s.data.toList).length := by
  have h := congrArg List.length (split_is s)
  rw [List.length_map, List.length_map, Lib.splitB_all ⟨#[32]⟩ (by decide) 0 _ s rfl] at h
  exact h
theorem split32 (w : World) (s : ByteArray) (m : Int) (hm : s.size ≤ 1048576) (hv : w.cell? ⟨3, 0, none⟩ = some (.int .i64 m)) :
    Calls Tryd.prog 43 #[.string s, .string ⟨#[32]⟩] w fun e w' => e = .returned (.slice (some ⟨w.heap.size, 0, none⟩) (spl 32 s.data.toList).length (spl 32 s.data.toList).length) ∧ w' = w.alloc (.cells ((spl 32 s.data.toList).map sV).toArray 9) := by
  have h := Tryd.strings_Split s ⟨#[32]⟩ m w (by omega) hv (by decide)
  rw [split_len, split_is] at h
  exact h
set_option maxRecDepth 100000 in
set_option maxHeartbeats 3200000 in
theorem implWords (w : World) (s : ByteArray) (m : Int) (hm : s.size ≤ 1048576) (hv : w.cell? ⟨3, 0, none⟩ = some (.int .i64 m)) : Calls Tryd.prog 15 #[.string s] w (NewTexts (wds s.data.toList) w) := by
  obtain ⟨i0, hi, hz0, hz1, hz2⟩ := info_parts infoStr
  have hgv := World.block_lt_of_cell? w _ hv
  have HV := Lib.hid hv
  have hnl : (spl 32 s.data.toList).length ≤ 1048577 := by
    have := spl_len 32 s.data.toList
    rw [← Lib.size_eq] at this
    omega
  clear hv
  go_enter Tryd.func15, Tryd.ntmps15
  go_wp2_with (go_at_call 43; refine (split32 _ s m hm (by first | exact kc_alloc HV.out | exact (World.cell?_alloc_past _ _ _ hgv).trans HV.out)).mono ?_; rintro e w2 ⟨rfl, rfl⟩)
  go_loopg [3, 10] (spl 32 s.data.toList).length (fun m v iv wr => ∃ k h cap, k ≤ (spl 32 s.data.toList).length ∧ m = (spl 32 s.data.toList).length - k ∧ iv = .int .i64 ((k : Nat) : Int) ∧ v = .slice (some ⟨h, 0, none⟩) (wdsTo s.data.toList k).length cap ∧ h ≠ w.heap.size + 1 ∧ wr.ownsRow w.heap.size 9 1 (.slice (some ⟨h, 0, none⟩) (wdsTo s.data.toList k).length cap) (wdsTo s.data.toList k).length ((wdsTo s.data.toList k).map sV) ∧ wr.heap[w.heap.size + 1]? = some (.cells ((spl 32 s.data.toList).map sV).toArray 9 (0, 0)) ∧ Below w.heap.size w wr)
  case atStart =>
    refine ⟨0, w.heap.size, 0, Nat.zero_le _, rfl, rfl, rfl, by omega, ?_, by repeat (first | (refine blk_new ?_; (first | rfl | (simp; done) | (simp; omega))) | refine blk_drewN ?_ | refine blk_old ?_), bl_alloc (bl_alloc (Below.refl _ _) _) _⟩
    exact (own_lits _ (Below.refl _ _)).alloc _
  case round =>
    obtain ⟨k, h, cap, hk, hgk, rfl, rfl, hne, hown, kx, hb⟩ := hrel
    have HGK := Lib.hid hgk
    clear hgk
    have hwl := wdsTo_len s.data.toList k
    by_cases hlt : k < (spl 32 s.data.toList).length
    · obtain ⟨x, hx⟩ : ∃ x, (spl 32 s.data.toList)[k]? = some x := ⟨_, List.getElem?_eq_getElem hlt⟩
      have f1 : wr.cell? ⟨w.heap.size + 1, k, none⟩ = some (sV x) := by
        rw [cell_of_row wr _ k _ _ (0, 0) kx, List.getElem?_toArray, List.getElem?_map, hx]
        rfl
      rw [sV] at f1
      have hgl := blk_lt kx
      cases x with
      | nil =>
        have HN := Lib.hid (wds_no hx)
        clear hx
        go_wp2
        go_roundg ((spl 32 s.data.toList).length - (k + 1))
        case measure => rw [HGK.out]; omega
        case rel => exact ⟨k + 1, h, cap, by omega, rfl, by go_num, by rw [HN.out], hne, by rw [HN.out]; exact hown, kx, hb⟩
      | cons a r =>
        have HN := Lib.hid (wds_yes hx)
        clear hx
        go_wp2_with (at_builtin; refine wpList_append_lies _ rfl _ _ 24 rfl w.heap.size 9 i0 (.string ByteArray.empty) 1 16 Tryd.underlying24 hi hz0 hz1 hz2 rfl (by decide) _ _ _ rfl (hown.alloc _) ⟨wr.heap.size, 0, none⟩ 1 1 [sV (a :: r)] rfl rfl (by first | exact app_news (heap_alloc_new _ _) | exact app_news (heap_alloc_new wr _)) (app_oneV _) (by decide) (by unfold maxLen; omega) (by omega) (by have := hb.size; simp; omega) (wr.heap.size + 1) (by simp) ?_; intro g3 cap3 w1 hown3 hgrow3 hat3 hlt3)
        have R1 : w1.ownsRow w.heap.size 9 1 (.slice (some ⟨g3, 0, none⟩) (wdsTo s.data.toList (k + 1)).length cap3) (wdsTo s.data.toList (k + 1)).length ((wdsTo s.data.toList (k + 1)).map sV) := by
          rw [HN.out, List.length_append, List.map_append]
          exact hown3
        have R2 : g3 ≠ w.heap.size + 1 := by
          rcases hat3 with e | e
          · have : h = g3 := Option.some.inj e
            omega
          · omega
        have R3 := app_below (bl_alloc hb _) (hown.alloc _) hgrow3
        have R4 := bld_kept (blk_old kx) hgrow3 (fun e => hne (Option.some.inj e).symm)
        have R5 : (wdsTo s.data.toList (k + 1)).length = (wdsTo s.data.toList k).length + 1 := by rw [HN.out, List.length_append]; rfl
        go_roundg ((spl 32 s.data.toList).length - (k + 1))
        case measure => rw [HGK.out]; omega
        case rel => exact ⟨k + 1, g3, cap3, by omega, rfl, by go_num, by rw [R5], R2, R1, R4, R3⟩
    · obtain rfl : k = (spl 32 s.data.toList).length := by omega
      rw [wds_all] at hown
      rw [wds_all]
      go_wp2
      go_ret
      exact ⟨_, rfl, hown, by simp, hb⟩
end Go.Proofs.YtfkleaagpflpkaaDoor
