/-
  Contract on the numbers in a text: the program. It holds for every text of at most 1048576 bytes, where a table and two variables of the library read as they are laid.
-/
import Derived.Test.YtcjfdfjimcapkaaDoorNumImpl
import Derived.Test.YtcjfdfjimcapkaaDoorJoinN
import Derived.Test.YtcjfdfjimcapkaaDoorFldPlain
import Derived.Test.YtcjfdfjimcapkaaDoorCurve
import Derived.Test.YtcjfdfjimcapkaaDoorShelf5
import Derived.Deep.AppendLies
import Derived.WalkSmall
namespace Go.Proofs.YtcjfdfjimcapkaaDoor
set_option linter.unusedVariables false
set_option linter.unusedSimpArgs false
open Go.RowKit

/-- what the reader of numerals wants of the library's variables -/
structure Rdy (B : Nat) (t1 t2 : TypeId) (p1 p2 : Value) (w : World) : Prop where
  pow : PowTab B w
  syn : w.var? Tryd.prog "strconv.ErrSyntax" = some #[.iface t1 p1]
  ran : w.var? Tryd.prog "strconv.ErrRange" = some #[.iface t2 p2]
  hb : B ≤ w.heap.size
  gs : 1 < B
  gr : 2 < B
theorem Rdy.below {B : Nat} {t1 t2 : TypeId} {p1 p2 : Value} {w w' : World} (h : Rdy B t1 t2 p1 p2 w) (hb : Below w.heap.size w w') : Rdy B t1 t2 p1 p2 w' :=
  have hB := hb.mono h.hb
  ⟨h.pow.on hB, var?_below (g := 1) hB (by kernel_rfl) h.gs h.syn, var?_below (g := 2) hB (by kernel_rfl) h.gr h.ran, Nat.le_trans h.hb hb.size, h.gs, h.gr⟩
theorem var_lt {w : World} {g : Nat} {n : String} {cs : Array Value} (hg : Tryd.prog.globalNamed n = some g) (h : w.var? Tryd.prog n = some cs) : g < w.heap.size := by
  unfold World.var? at h
  rw [hg] at h
  simp only [Option.bind_some] at h
  rcases Nat.lt_or_ge g w.heap.size with h' | h'
  · exact h'
  · rw [Array.getElem?_eq_none h'] at h; cases h
theorem rdy_of {w : World} {t1 t2 : TypeId} {p1 p2 : Value} (hpow : Lib.TabIs Tryd.prog w "internal/strconv.uint64pow10" .u64 Lib.pow10Tab) (hs : w.var? Tryd.prog "strconv.ErrSyntax" = some #[.iface t1 p1]) (hr : w.var? Tryd.prog "strconv.ErrRange" = some #[.iface t2 p2]) : Rdy w.heap.size t1 t2 p1 p2 w :=
  ⟨Lib.tabBelow_of_tabIs hpow, hs, hr, Nat.le_refl _, var_lt (g := 1) (by kernel_rfl) hs, var_lt (g := 2) (by kernel_rfl) hr⟩
theorem spans_len (p : Nat → Bool) (s : ByteArray) : ∀ (f pos : Nat) (st : Option Nat) (acc : List (Nat × Nat)), (Lib.closeSpans s (Lib.spansFromP p s f pos st acc)).length ≤ acc.length + f + 1
  | 0, pos, st, acc => by
    unfold Lib.spansFromP Lib.closeSpans
    cases st <;> simp
  | f + 1, pos, st, acc => by
    unfold Lib.spansFromP
    split
    · split
      · cases st with
        | none => have := spans_len p s f (pos + (Utf8.decode s pos).2) none acc; simp only; omega
        | some a =>
          have := spans_len p s f (pos + (Utf8.decode s pos).2) none (acc ++ [(a, pos)])
          rw [List.length_append, List.length_singleton] at this
          simp only
          omega
      · cases st with
        | none => have := spans_len p s f (pos + (Utf8.decode s pos).2) (some pos) acc; simp only; omega
        | some a => have := spans_len p s f (pos + (Utf8.decode s pos).2) (some a) acc; simp only; omega
    · unfold Lib.closeSpans
      cases st <;> simp <;> omega
theorem pcs_len (l : List UInt8) : (pcs l).length ≤ l.length + 1 := by
  unfold pcs Lib.goFieldsP Lib.spansOfP
  rw [List.length_map, List.length_map]
  have := spans_len sepR ⟨l.toArray⟩ (ByteArray.size ⟨l.toArray⟩) 0 none []
  have hs : (⟨l.toArray⟩ : ByteArray).size = l.length := by simp [ByteArray.size]
  rw [hs] at this
  simp only [List.length_nil, Nat.zero_add] at this
  rw [hs]
  omega
theorem pcs_piece {l x : List UInt8} (h : x ∈ pcs l) : x.length ≤ l.length := by
  unfold pcs Lib.goFieldsP at h
  rw [List.map_map] at h
  obtain ⟨y, _, rfl⟩ := List.mem_map.1 h
  simp only [Function.comp_apply, ByteArray.data_extract, Array.toList_extract, List.length_take, List.length_drop, List.extract_eq_take_drop]
  omega
theorem fields_is (l : List UInt8) : (Lib.goFieldsP sepR ⟨l.toArray⟩).map Value.string = (pcs l).map sV := by
  unfold pcs
  rw [List.map_map]
  exact List.map_congr_left fun x _ => by
    show Value.string x = sV x.data.toList
    rw [sV, Lib.mk_data]
theorem fields_len (l : List UInt8) : (Lib.goFieldsP sepR ⟨l.toArray⟩).length = (pcs l).length := by simp [pcs]
/-- the numbers of the first k pieces -/
def nmTo (P : List (List UInt8)) (k : Nat) : List Int := (P.take k).map numV
theorem nm_zero (P : List (List UInt8)) : nmTo P 0 = [] := rfl
theorem nm_next {P : List (List UInt8)} {k : Nat} {x : List UInt8} (h : P[k]? = some x) : nmTo P (k + 1) = nmTo P k ++ [numV x] := by
  unfold nmTo
  rw [List.take_add_one, h]
  simp
theorem nm_len {P : List (List UInt8)} {k : Nat} (h : k ≤ P.length) : (nmTo P k).length = k := by simp [nmTo]; omega
theorem nums_all {l : List UInt8} (h : ∀ x ∈ pcs l, numB x = true) : nums l = nmTo (pcs l) (pcs l).length := by
  unfold nums nmTo
  rw [if_pos (List.all_eq_true.2 h), List.take_length]
theorem nums_not {l x : List UInt8} (h : x ∈ pcs l) (hx : numB x = false) : nums l = [] := by
  unfold nums
  rw [if_neg]
  intro ha
  have := List.all_eq_true.1 ha x h
  rw [hx] at this
  cases this
def OkTo (P : List (List UInt8)) (k : Nat) : Prop := ∀ i x, i < k → P[i]? = some x → numB x = true
theorem OkTo.zero (P : List (List UInt8)) : OkTo P 0 := fun i _ h => by omega
theorem OkTo.next {P : List (List UInt8)} {k : Nat} {x : List UInt8} (h : OkTo P k) (hx : P[k]? = some x) (hn : numB x = true) : OkTo P (k + 1) := fun i y hi hy => by
  by_cases e : i = k
  · subst e; rw [hx] at hy; cases hy; exact hn
  · exact h i y (by omega) hy
theorem OkTo.all {P : List (List UInt8)} (h : OkTo P P.length) : ∀ x ∈ P, numB x = true := fun x hx => by
  obtain ⟨i, hi, rfl⟩ := List.getElem_of_mem hx
  exact h i _ hi (List.getElem?_eq_getElem hi)
theorem row_own {w : World} {B T A n : Nat} {c : Nat} {xs : List Value} (h : w.ownsRow B T 1 (.slice (some ⟨A, 0, none⟩) n c) n xs) : ∃ cur, w.heap[A]? = some (.cells cur T (0, 0)) ∧ B ≤ A ∧ ∀ i, i < n → cur[i]? = xs[i]? := by
  rcases h.2 with ⟨h0, _⟩ | ⟨g, cap, cur, hv, hb, hg, _, _, _, ht⟩
  · cases h0
  · cases hv
    refine ⟨cur, hg, hb, fun i hi => ?_⟩
    rw [← ht, List.getElem?_take_of_lt (by omega), Array.getElem?_toList]
theorem sep_any (W : World) (x : Nat) (hx : x ≤ 1114111) : FnGives Tryd.prog 47 #[] #[encR x] (.bool (sepR x)) W := by
  show Calls Tryd.prog 47 #[.int .i32 (x : Int)] W _
  unfold sepR
  go_enter Tryd.func47, Tryd.ntmps47
  go_wp2
  all_goals (go_ret; refine ⟨?_, 0, rfl⟩; refine congrArg (fun b => Ending.returned (.bool b)) ?_; rw [Bool.eq_iff_iff]; simp; try omega)
theorem blk_grown {w1 w2 : World} {b : Nat} {o : Obj} {v : Value} (h : w1.heap[b]? = some o) (hg : w1.grownBy w2 v.ownBlock) (hne : ¬ some b = v.ownBlock) : w2.heap[b]? = some o := by
  have hlt : b < w1.heap.size := (Array.getElem?_eq_some_iff.1 h).1
  rw [hg.block b hlt (fun e => hne e)]
  exact h
theorem own_endC {w wr : World} {T : TypeId} {v : Value} {xs : List Int} (hown : wr.ownsRow w.heap.size T 1 v xs.length (ints xs)) :
    ∃ A c, v = .slice A xs.length c ∧ xs.length ≤ c ∧ (A = none → xs.length = 0) ∧ OwnC w.heap.size wr.heap.size wr A (ints xs) := by
  have h := hown
  rcases h.2 with ⟨rfl, h0⟩ | ⟨g, cap, cur, rfl, hb, hg, hn, hm, hs, ht⟩
  · exact ⟨none, 0, by rw [h0], by omega, fun _ => h0, fun h => by rw [ints_len] at h; omega⟩
  · obtain ⟨A, c, e, o⟩ := own_end hown
    cases e
    exact ⟨_, cap, rfl, hn, (fun e => by cases e), o⟩
theorem fields_any (w : World) (l : List UInt8) (P : List (List UInt8)) (hP : pcs l = P) (hm : l.length ≤ 1048576) : Calls Tryd.prog 46 #[.string ⟨l.toArray⟩, .func (.func 47) #[] #[]] w fun e w' => ∃ A cur, e = .returned (.slice (some ⟨A, 0, none⟩) P.length P.length) ∧ w.heap.size ≤ A ∧ w'.heap[A]? = some (.cells cur 9 (0, 0)) ∧ (∀ i, i < P.length → cur[i]? = (P.map sV)[i]?) ∧ Below w.heap.size w w' := by
  have hsz : (⟨l.toArray⟩ : ByteArray).size = l.length := by simp [ByteArray.size]
  subst hP
  refine (Tryd.strings_FieldsFunc_runes 47 #[] (enters_of Tryd.func47 (by kernel_rfl) rfl) sepR ⟨l.toArray⟩ _ (by omega) (fun W x hx _ => sep_any W x hx)).mono ?_
  rintro e w2 ⟨A, rfl, hA, hown, hb2⟩
  rw [fields_is, fields_len] at hown
  obtain ⟨cur, k1, _, k2⟩ := row_own hown
  exact ⟨A, cur, by rw [fields_len], hA, k1, k2, hb2⟩
theorem readDec_at (w : World) (x : List UInt8) (b : Bool) (hn : numB x = b) (B : Nat) (t1 t2 : TypeId) (p1 p2 : Value) (hm : x.length ≤ 1048576) (hR : Rdy B t1 t2 p1 p2 w) : Calls Tryd.prog 48 #[.string ⟨x.toArray⟩] w fun e w' => e = .returned (.tuple #[.int .i64 (numV x), .bool b]) ∧ Below w.heap.size w w' := by
  subst hn
  exact implReadDecimal w ⟨x.toArray⟩ B (by simpa [ByteArray.size] using hm) hR.hb hR.pow t1 t2 p1 p2 hR.syn hR.ran
/-- a list of numbers of the call's own -/
def NewNums (zs : List Int) (w : World) (e : Ending) (w' : World) : Prop :=
  ∃ A c, e = .returned (.slice A zs.length c) ∧ zs.length ≤ c ∧ (A = none → zs.length = 0) ∧ OwnC w.heap.size w'.heap.size w' A (ints zs) ∧ Below w.heap.size w w'
set_option maxRecDepth 100000 in
set_option maxHeartbeats 3200000 in
theorem implNumbers (w : World) (l : List UInt8) (B : Nat) (t1 t2 : TypeId) (p1 p2 : Value) (hm : l.length ≤ 1048576) (hR : Rdy B t1 t2 p1 p2 w) : Calls Tryd.prog 24 #[.string ⟨l.toArray⟩] w (NewNums (nums l) w) := by
  have HRD := Lib.hid hR
  clear hR
  obtain ⟨i0, hi, hz0, hz1, hz2⟩ := info_parts infoInt
  have hpl := pcs_len l
  have hsz : (⟨l.toArray⟩ : ByteArray).size = l.length := by simp [ByteArray.size]
  go_enter Tryd.func24, Tryd.ntmps24
  obtain ⟨P, hP⟩ : ∃ P, pcs l = P := ⟨_, rfl⟩
  have HPN := Lib.hid hP
  rw [hP] at hpl
  clear hP
  go_wp2_with (go_at_call 46; refine (fields_any _ l P HPN.out hm).mono ?_; rintro e w2 ⟨A, cur, rfl, hA, kA, hcur, hb2⟩)
  go_loopg [3, 12] P.length (fun m v iv wr => ∃ k h cap, k ≤ P.length ∧ m = P.length - k ∧ iv = .int .i64 ((k : Nat) : Int) ∧ v = .slice (some ⟨h, 0, none⟩) k cap ∧ h ≠ A ∧ wr.ownsRow w.heap.size 2 1 (.slice (some ⟨h, 0, none⟩) k cap) k (ints (nmTo P k)) ∧ wr.heap[A]? = some (.cells cur 9 (0, 0)) ∧ OkTo P k ∧ Below w.heap.size w wr)
  case atStart =>
    refine ⟨0, w.heap.size, 0, Nat.zero_le _, rfl, rfl, rfl, ?_, ?_, kA, OkTo.zero P, ?_⟩
    · simp at hA; omega
    · exact own_beJ (own_lit 2 (Below.refl _ w)) hb2
    · repeat (first | exact Below.refl _ _ | assumption | apply bl_alloc | apply bl_drewN | apply Below.drew | (refine bl_set ?_ (by first | exact Nat.le_refl _ | (simp; done) | (simp; omega)) _) | (refine bl_trans ?_ (by assumption)))
  case round =>
    obtain ⟨k, h, cap, hk, hgk, rfl, rfl, hne, hown1, kx, hok, hb1⟩ := hrel
    have HGK := Lib.hid hgk
    clear hgk
    by_cases hlt : k < P.length
    · obtain ⟨x, hx⟩ : ∃ x, P[k]? = some x := ⟨_, List.getElem?_eq_getElem hlt⟩
      have f1 : wr.cell? ⟨A, k, none⟩ = some (sV x) := by
        rw [cell_of_row wr A k _ _ (0, 0) kx, hcur k hlt, List.getElem?_map, hx]
        rfl
      rw [sV] at f1
      have hgl := blk_lt kx
      have hxl : x.length ≤ l.length := pcs_piece (by rw [HPN.out]; exact List.mem_of_getElem? hx)
      cases hn : numB x with
      | false =>
        have HN := Lib.hid (nums_not (l := l) (x := x) (by rw [HPN.out]; exact List.mem_of_getElem? hx) hn)
        have HF := Lib.hid hn
        clear hn
        go_wp2_with (go_at_call 48; refine (readDec_at _ x _ HF.out B t1 t2 p1 p2 (by omega) (HRD.out.below (by repeat (first | exact Below.refl _ _ | assumption | apply bl_alloc | apply bl_drewN | apply Below.drew | (refine bl_set ?_ (by first | exact Nat.le_refl _ | (simp; done) | (simp; omega)) _) | (refine bl_trans ?_ (by assumption)))))).mono ?_; rintro e wv ⟨rfl, hbv⟩; have kv := keep_blk (hb := hbv) (h := kx))
        obtain ⟨A9, c9, e9, l9, n9, o9⟩ := own_endC (own_lit (w := w) (W := wv) 2 (by repeat (first | exact Below.refl _ _ | assumption | apply bl_alloc | apply bl_drewN | apply Below.drew | (refine bl_set ?_ (by first | exact Nat.le_refl _ | (simp; done) | (simp; omega)) _) | (refine bl_trans ?_ (by assumption)))))
        go_ret
        exact ⟨A9, c9, by rw [HN.out]; exact congrArg Ending.returned e9, by rw [HN.out]; exact l9, by rw [HN.out]; exact n9, by rw [HN.out]; exact o9, by repeat (first | exact Below.refl _ _ | assumption | apply bl_alloc | apply bl_drewN | apply Below.drew | (refine bl_set ?_ (by first | exact Nat.le_refl _ | (simp; done) | (simp; omega)) _) | (refine bl_trans ?_ (by assumption)))⟩
      | true =>
        have HN := Lib.hid (nm_next hx)
        have HO := Lib.hid (hok.next hx hn)
        have HF := Lib.hid hn
        clear hn
        go_wp2_with (first | (go_at_call 48; refine (readDec_at _ x _ HF.out B t1 t2 p1 p2 (by omega) (HRD.out.below (by repeat (first | exact Below.refl _ _ | assumption | apply bl_alloc | apply bl_drewN | apply Below.drew | (refine bl_set ?_ (by first | exact Nat.le_refl _ | (simp; done) | (simp; omega)) _) | (refine bl_trans ?_ (by assumption)))))).mono ?_; rintro e wv ⟨rfl, hbv⟩; have kv := keep_blk (hb := hbv) (h := kx)) | (at_builtin; refine wpList_append_lies _ rfl _ _ 22 rfl w.heap.size 2 i0 (.int .i64 0) 1 8 Tryd.underlying22 hi hz0 hz1 hz2 rfl (by decide) _ _ _ rfl ((own_beJ hown1 hbv).alloc _) ⟨wv.heap.size, 0, none⟩ 1 1 [.int .i64 (numV x)] rfl rfl (by first | exact app_news (heap_alloc_new _ _) | exact app_news (heap_alloc_new wv _)) (app_one _) (by decide) (by unfold maxLen; omega) (by omega) (by have := hb1.size; have := hbv.size; simp; omega) (wv.heap.size + 1) (by simp) ?_; intro g3 cap3 w1 hown3 hgrow3 hat3 hlt3))
        have R1 : w1.ownsRow w.heap.size 2 1 (.slice (some ⟨g3, 0, none⟩) (k + 1) cap3) (k + 1) (ints (nmTo P (k + 1))) := by
          rw [HN.out, ints, List.map_append]
          exact hown3
        have R2 : g3 ≠ A := by
          rcases hat3 with e | e
          · have : h = g3 := Option.some.inj e
            omega
          · have := hbv.size
            omega
        have R3 := app_below (bl_alloc (bl_trans hb1 hbv) _) ((own_beJ hown1 hbv).alloc _) hgrow3
        have R4 := blk_grown (blk_old kv) hgrow3 (fun e => hne (Option.some.inj e).symm)
        go_roundg (P.length - (k + 1))
        case measure => rw [HGK.out]; omega
        case rel => exact ⟨k + 1, g3, cap3, by omega, rfl, by go_num, rfl, R2, R1, R4, HO.out, R3⟩
    · obtain rfl : k = P.length := by omega
      rw [← HPN.out] at hown1 hok ⊢
      have HN := Lib.hid (nums_all hok.all)
      have HL := Lib.hid (nm_len (P := pcs l) (Nat.le_refl _))
      have hown2 : wr.ownsRow w.heap.size 2 1 (.slice (some ⟨h, 0, none⟩) (nmTo (pcs l) (pcs l).length).length cap) (nmTo (pcs l) (pcs l).length).length (ints (nmTo (pcs l) (pcs l).length)) := by
        rw [HL.out]
        exact hown1
      go_wp2
      go_ret
      obtain ⟨A9, c9, e9, l9, n9, o9⟩ := own_endC hown2
      rw [HL.out] at e9
      exact ⟨A9, c9, by rw [HN.out, HL.out]; exact congrArg Ending.returned e9, by rw [HN.out]; exact l9, by rw [HN.out]; exact n9, by rw [HN.out]; exact o9, hb1⟩

end Go.Proofs.YtcjfdfjimcapkaaDoor
