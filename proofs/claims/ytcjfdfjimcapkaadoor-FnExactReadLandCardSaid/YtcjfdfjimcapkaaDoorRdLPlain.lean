/-
  Plain words on reading a land's text back, without any program text. No condition.
-/
import Derived.Test.YtcjfdfjimcapkaaDoorFldPlain
import Derived.Test.YtcjfdfjimcapkaaDoorLtPlain
import Derived.Lib.Strings
namespace Go.Proofs.YtcjfdfjimcapkaaDoor
set_option linter.unusedVariables false
open Go.RowKit
theorem spl_jn {d : UInt8} : ∀ {P : List (List UInt8)}, P ≠ [] → (∀ x ∈ P, d ∉ x) → spl d (jn d P) = P
  | [x], _, h => by rw [jn]; exact spl_word (h x (by simp))
  | x :: y :: r, _, h => by
    rw [jn, spl_app, spl_word (h x (by simp)), spl_jn (P := y :: r) (by simp) (fun z hz => h z (by simp [hz]))]
    rfl
theorem jn_last (d : UInt8) (x : List UInt8) : ∀ Q : List (List UInt8), jn d (Q ++ [[]]) ++ x = jn d (Q ++ [x])
  | [] => rfl
  | [y] => by simp [jn]
  | y :: z :: r => by
    have := jn_last d x (z :: r)
    simp only [List.cons_append, jn] at *
    rw [← this]
    simp
/-- a row's numbers; a row of c words that are numerals -/
def rowN (x : List UInt8) : List Int := (spl 32 x).map numV
def rowB (c : Nat) (x : List UInt8) : Bool := decide ((spl 32 x).length = c) && (spl 32 x).all numB
def rws (hs : List Int) (o c : Nat) : List (List UInt8) := (List.range c).map fun k => Lib.itoa (gt hs (o + k))
def lnz (hs : List Int) (c i : Nat) : List (List UInt8) := (List.range i).map fun j => rwTo hs (j * c) c
theorem rws_next (hs : List Int) (o c : Nat) : rws hs o (c + 1) = rws hs o c ++ [Lib.itoa (gt hs (o + c))] := by simp [rws, List.range_succ]
theorem lnz_next (hs : List Int) (c i : Nat) : lnz hs c (i + 1) = lnz hs c i ++ [rwTo hs (i * c) c] := by simp [lnz, List.range_succ]
theorem rws_len (hs : List Int) (o c : Nat) : (rws hs o c).length = c := by simp [rws]
theorem lnz_len (hs : List Int) (c i : Nat) : (lnz hs c i).length = i := by simp [lnz]
theorem len_ne {α : Type} {l : List α} (h : 0 < l.length) : l ≠ [] := fun e => by rw [e] at h; simp at h
theorem rw_jn (hs : List Int) (o : Nat) : ∀ k, rwTo hs o k = jn 32 (rws hs o k)
  | 0 => rfl
  | 1 => by simp [rwTo, rws, jn]
  | k + 2 => by
    rw [rw_next (by omega), rw_jn hs o (k + 1), rws_next hs o (k + 1), jn_snoc _ _ (len_ne (by rw [rws_len]; omega))]
    simp
theorem rws_no {hs : List Int} {o c : Nat} {d : UInt8} (h1 : d ≠ 45) (h2 : d.toNat < 48 ∨ 57 < d.toNat) : ∀ x ∈ rws hs o c, d ∉ x := by
  intro x hx
  obtain ⟨k, _, rfl⟩ := List.mem_map.1 hx
  exact itoa_no _ h1 h2
theorem spl_rw {hs : List Int} {o c : Nat} (hc : 0 < c) : spl 32 (rwTo hs o c) = rws hs o c := by
  rw [rw_jn, spl_jn (len_ne (by rw [rws_len]; exact hc)) (rws_no (by decide) (by decide))]
theorem rw_no (hs : List Int) (o : Nat) : ∀ c, (10 : UInt8) ∉ rwTo hs o c
  | 0 => by simp [rwTo]
  | c + 1 => by
    have h1 := rw_no hs o c
    have h2 := itoa_no (gt hs (o + c)) (d := 10) (by decide) (by decide)
    by_cases h : 0 < c
    · rw [rw_next h]
      simp [h1, h2]
    · rw [rw_first h]
      simp [h1, h2]
theorem lt_jn (hs : List Int) (c : Nat) : ∀ i, ltTo hs c i = jn 10 (lnz hs c i ++ [[]])
  | 0 => rfl
  | i + 1 => by
    rw [lt_next, lt_jn hs c i, jn_last, lnz_next, jn_snoc 10 [] (P := lnz hs c i ++ [rwTo hs (i * c) c]) (by simp)]
theorem spl_lt (hs : List Int) (c i : Nat) : spl 10 (ltTo hs c i) = lnz hs c i ++ [[]] := by
  rw [lt_jn, spl_jn (by simp)]
  intro x hx
  rcases List.mem_append.1 hx with h | h
  · obtain ⟨k, _, rfl⟩ := List.mem_map.1 h
    exact rw_no _ _ _
  · rw [List.mem_singleton] at h
    subst h
    simp
theorem flds_rw (hs : List Int) (o : Nat) : ∀ k, flds (rwTo hs o k) = rws hs o k
  | 0 => rfl
  | k + 1 => by
    have ih := flds_rw hs o k
    by_cases h : 0 < k
    · rw [rw_next h, List.append_assoc, List.singleton_append, flds_sep (by decide), ih, flds_num, rws_next]
    · obtain rfl : k = 0 := by omega
      rw [rw_first (by omega)]
      simp [rwTo, rws, flds_num]
def gts (hs : List Int) (n : Nat) : List Int := (List.range n).map (gt hs)
theorem gts_all {hs : List Int} {n : Nat} (h : hs.length = n) : gts hs n = hs := by
  subst h
  refine List.ext_getElem (by simp [gts]) fun i h1 h2 => ?_
  simp [gts, gt, h2]
theorem gts_add (hs : List Int) (a c : Nat) : gts hs (a + c) = gts hs a ++ (List.range c).map fun k => gt hs (a + k) := by
  unfold gts
  rw [List.range_add, List.map_append, List.map_map]
  rfl
theorem flds_lt (hs : List Int) (c : Nat) : ∀ i, (∀ x, flds (ltTo hs c i ++ x) = flds (ltTo hs c i) ++ flds x) ∧ flds (ltTo hs c i) = (gts hs (i * c)).map Lib.itoa
  | 0 => ⟨fun x => rfl, by simp [ltTo, gts, flds_nil]⟩
  | i + 1 => by
    obtain ⟨h1, h2⟩ := flds_lt hs c i
    have e : flds (ltTo hs c (i + 1)) = flds (ltTo hs c i) ++ flds (rwTo hs (i * c) c) := by rw [lt_next, flds_sep (by decide), h1, flds_nil, List.append_nil]
    refine ⟨fun x => ?_, ?_⟩
    · rw [e, lt_next, List.append_assoc, List.singleton_append, flds_sep (by decide), h1]
    · rw [e, h2, flds_rw, Nat.add_mul, Nat.one_mul, gts_add, List.map_append, List.map_map]
      rfl
theorem rw_small (hs : List Int) (o : Nat) : ∀ c, ∀ x ∈ rwTo hs o c, x.toNat < 128
  | 0, x, h => by simp [rwTo] at h
  | c + 1, x, h => by
    by_cases h0 : 0 < c
    · rw [rw_next h0, List.append_assoc, List.mem_append, List.mem_append, List.mem_singleton] at h
      rcases h with h | h | h
      · exact rw_small hs o c x h
      · subst h; decide
      · exact itoa_small _ x h
    · rw [rw_first h0, List.mem_append] at h
      rcases h with h | h
      · exact rw_small hs o c x h
      · exact itoa_small _ x h
theorem lt_small (hs : List Int) (c : Nat) : ∀ i, ∀ x ∈ ltTo hs c i, x.toNat < 128
  | 0, x, h => by simp [ltTo] at h
  | i + 1, x, h => by
    rw [lt_next, List.append_assoc, List.mem_append, List.mem_append, List.mem_singleton] at h
    rcases h with h | h | h
    · exact lt_small hs c i x h
    · exact rw_small hs _ c x h
    · subst h; decide
def Fits (n : Int) : Prop := -1000000000000000000 < n ∧ n < 1000000000000000000
/-- a land of n rows of c columns -/
theorem land_nat {n c : Nat} {hs : List Int} (h : landOk (n : Int) (c : Int) hs = true) : (1 ≤ n ∧ n ≤ 12) ∧ (1 ≤ c ∧ c ≤ 12) ∧ hs.length = n * c ∧ ∀ i, Fits (gt hs i) := by
  obtain ⟨h1, h2, h3, _, _, h4⟩ := landOk_of h
  refine ⟨by omega, by omega, by rw [← Int.natCast_mul] at h3; omega, fun i => ?_⟩
  by_cases hi : i < hs.length
  · have := h4 i hi
    exact ⟨by omega, by omega⟩
  · have e : gt hs i = 0 := by unfold gt; rw [List.getD_eq_getElem?_getD, List.getElem?_eq_none (by omega)]; rfl
    rw [e]
    exact ⟨by omega, by omega⟩
theorem nums_lt {n c : Nat} {hs : List Int} (h : landOk (n : Int) (c : Int) hs = true) : nums (ltTo hs c n) = hs := by
  obtain ⟨_, _, h3, h4⟩ := land_nat h
  have hf := (flds_lt hs c n).2
  rw [gts_all h3] at hf
  refine nums_of (lt_small hs c n) hf fun x hx => ?_
  obtain ⟨k, _, rfl⟩ := mem_gt hx
  exact h4 k
/-! the strict reading -/
def rlR (l : List UInt8) : List (List UInt8) := (spl 10 l).dropLast
def rlC (l : List UInt8) : Nat := (spl 32 ((rlR l).headD [])).length
def flt (R : List (List UInt8)) : List Int := R.flatMap rowN
def rlB (l : List UInt8) : Bool := decide ((spl 10 l).getLast? = some []) && (inR ((rlR l).length : Int) 1 12 && ((rlR l).all (rowB (rlC l)) && landOk ((rlR l).length : Int) (rlC l : Int) (flt (rlR l))))
theorem row_len {c : Nat} {x : List UInt8} (h : rowB c x = true) : (rowN x).length = c := by
  simp only [rowB, Bool.and_eq_true, decide_eq_true_eq] at h
  rw [rowN, List.length_map, h.1]
theorem flt_len {c : Nat} : ∀ {R : List (List UInt8)}, R.all (rowB c) = true → (flt R).length = R.length * c
  | [], _ => by simp [flt]
  | x :: r, h => by
    simp only [List.all_cons, Bool.and_eq_true] at h
    have ih := flt_len h.2
    have := row_len h.1
    unfold flt at *
    rw [List.flatMap_cons, List.length_append, ih, this, List.length_cons, Nat.add_mul, Nat.one_mul, Nat.add_comm]
theorem gt_left {xs ys : List Int} {k : Nat} (h : k < xs.length) : gt (xs ++ ys) k = gt xs k := by
  unfold gt
  rw [List.getD_eq_getElem?_getD, List.getD_eq_getElem?_getD, List.getElem?_append_left h]
theorem gt_right {xs ys : List Int} (k : Nat) : gt (xs ++ ys) (xs.length + k) = gt ys k := by
  unfold gt
  rw [List.getD_eq_getElem?_getD, List.getD_eq_getElem?_getD, List.getElem?_append_right (by omega)]
  congr 2
  omega
theorem flt_get {c : Nat} : ∀ {R : List (List UInt8)} {j k : Nat} {x p : List UInt8}, R.all (rowB c) = true → R[j]? = some x → (spl 32 x)[k]? = some p → gt (flt R) (j * c + k) = numV p
  | y :: r, 0, k, x, p, h, hx, hp => by
    simp only [List.all_cons, Bool.and_eq_true] at h
    simp at hx
    subst hx
    have hk := (List.getElem?_eq_some_iff.1 hp).1
    have hl : k < (rowN y).length := by rw [rowN, List.length_map]; exact hk
    rw [Nat.zero_mul, Nat.zero_add, flt, List.flatMap_cons, gt_left hl, gt, List.getD_eq_getElem?_getD, rowN, List.getElem?_map, hp]
    rfl
  | y :: r, j + 1, k, x, p, h, hx, hp => by
    simp only [List.all_cons, Bool.and_eq_true] at h
    have ih := flt_get (R := r) (j := j) h.2 (by simpa using hx) hp
    have hl := row_len h.1
    rw [flt, List.flatMap_cons, show (j + 1) * c + k = (rowN y).length + (j * c + k) by rw [hl, Nat.add_mul, Nat.one_mul]; omega, gt_right]
    exact ih
theorem lnz_flt {c : Nat} {R : List (List UInt8)} (h : R.all (rowB c) = true) : lnz (flt R) c R.length = R := by
  refine List.ext_getElem (by simp [lnz]) fun j h1 h2 => ?_
  have hb := List.all_eq_true.1 h _ (List.getElem_mem h2)
  simp only [lnz, List.getElem_map, List.getElem_range]
  rw [rw_jn, ← jn_spl 32 R[j]]
  congr 1
  have hb' := hb
  simp only [rowB, Bool.and_eq_true, decide_eq_true_eq] at hb'
  refine List.ext_getElem (by rw [rws_len, hb'.1]) fun k h3 h4 => ?_
  simp only [rws, List.getElem_map, List.getElem_range]
  rw [flt_get h (List.getElem?_eq_getElem h2) (List.getElem?_eq_getElem h4)]
  exact num_text (List.all_eq_true.1 hb'.2 _ (List.getElem_mem h4))
theorem rl_last {l : List UInt8} (h : (spl 10 l).getLast? = some []) : jn 10 (rlR l ++ [[]]) = l := by
  have hne := spl_ne 10 l
  have := List.dropLast_concat_getLast hne
  rw [List.getLast?_eq_some_getLast hne] at h
  rw [Option.some.inj h] at this
  rw [rlR, this, jn_spl]
theorem lt_rl {l : List UInt8} (h : rlB l = true) : ltTo (flt (rlR l)) (rlC l) (rlR l).length = l := by
  simp only [rlB, Bool.and_eq_true, decide_eq_true_eq] at h
  rw [lt_jn, lnz_flt h.2.2.1, rl_last h.1]
theorem rowN_rw {hs : List Int} {o c : Nat} (hc : 0 < c) (h : ∀ i, Fits (gt hs i)) : rowN (rwTo hs o c) = (List.range c).map (fun k => gt hs (o + k)) ∧ rowB c (rwTo hs o c) = true := by
  unfold rowN rowB
  rw [spl_rw hc]
  have key : ∀ c, (rws hs o c).map numV = (List.range c).map (fun k => gt hs (o + k)) ∧ (rws hs o c).all numB = true := by
    intro c
    induction c with
    | zero => exact ⟨rfl, rfl⟩
    | succ c ih =>
      have hn := num_itoa (h (o + c)).1 (h (o + c)).2
      rw [rws_next, List.map_append, ih.1, List.all_append, ih.2, List.range_succ, List.map_append]
      simp [hn.1, hn.2]
  have k := key c
  exact ⟨k.1, by rw [k.2, rws_len]; simp⟩
theorem flt_lnz {hs : List Int} {c : Nat} (hc : 0 < c) (h : ∀ i, Fits (gt hs i)) : ∀ n, flt (lnz hs c n) = gts hs (n * c) ∧ (lnz hs c n).all (rowB c) = true
  | 0 => by simp [flt, lnz, gts]
  | n + 1 => by
    have ih := flt_lnz hc h n
    have hr := rowN_rw (o := n * c) hc h
    unfold flt at *
    rw [lnz_next, List.flatMap_append, ih.1, List.all_append, ih.2, Nat.add_mul, Nat.one_mul, gts_add]
    simp [hr.1, hr.2]
theorem rl_lt {n c : Nat} {hs : List Int} (h : landOk (n : Int) (c : Int) hs = true) : rlB (ltTo hs c n) = true ∧ (rlR (ltTo hs c n)).length = n ∧ rlC (ltTo hs c n) = c ∧ flt (rlR (ltTo hs c n)) = hs := by
  obtain ⟨h1, h2, h3, h4⟩ := land_nat h
  have hr : rlR (ltTo hs c n) = lnz hs c n := by rw [rlR, spl_lt, List.dropLast_concat]
  have hf := flt_lnz (c := c) (by omega) h4 n
  have hc : rlC (ltTo hs c n) = c := by
    rw [rlC, hr]
    obtain ⟨m, rfl⟩ : ∃ m, n = m + 1 := ⟨n - 1, by omega⟩
    have e : (lnz hs c (m + 1)).headD [] = rwTo hs (0 * c) c := by
      unfold lnz
      rw [List.range_succ_eq_map]
      rfl
    rw [e, spl_rw (by omega), rws_len]
  have he : flt (rlR (ltTo hs c n)) = hs := by rw [hr, hf.1, gts_all h3]
  refine ⟨?_, by rw [hr, lnz_len], hc, he⟩
  unfold rlB
  rw [he, hc, hr, hf.2, lnz_len, h, spl_lt, inR_yes (by omega) (by omega)]
  simp
/-- how many newlines a text has -/
def cnt (l : List UInt8) : Nat := (spl 10 l).length - 1
theorem cnt_is (d : UInt8) : ∀ l : List UInt8, (spl d l).length = Lib.count l [d] + 1
  | [] => by simp [spl, Lib.count, Lib.countFrom, Lib.index]
  | c :: r => by
    have ih := cnt_is d r
    by_cases h : c = d
    · subst h
      rw [Lib.count_cons_eq, spl, if_pos rfl, List.length_cons, ih, Nat.add_comm 1]
    · rw [Lib.count_cons_ne _ _ _ h, spl, if_neg h, ← ih]
      cases hs : spl d r with
      | nil => exact absurd hs (spl_ne d r)
      | cons y s => rfl
theorem cnt_rl (l : List UInt8) : cnt l = (rlR l).length := by rw [rlR, List.length_dropLast, cnt]
/-- the program's reading -/
def ilC (l : List UInt8) : Nat := (nums l).length / cnt l
def ilB (l : List UInt8) : Bool := decide (cnt l ≠ 0) && (landOk (cnt l : Int) (ilC l : Int) (nums l) && decide (ltText (cnt l : Int) (ilC l : Int) (nums l) = l))
theorem nums_rl {l : List UInt8} (h : rlB l = true) : nums l = flt (rlR l) ∧ ilC l = rlC l := by
  have hn := lt_rl h
  simp only [rlB, Bool.and_eq_true, decide_eq_true_eq] at h
  have hl := land_nat h.2.2.2
  have e := nums_lt h.2.2.2
  rw [hn] at e
  refine ⟨e, ?_⟩
  rw [ilC, e, hl.2.2.1, cnt_rl, Nat.mul_div_cancel_left _ (by omega)]
theorem il_rl (l : List UInt8) : ilB l = rlB l := by
  rcases hr : rlB l with _ | _
  · rcases hi : ilB l with _ | _
    · rfl
    · simp only [ilB, Bool.and_eq_true, decide_eq_true_eq] at hi
      have := (rl_lt hi.2.1).1
      have e := hi.2.2
      rw [ltt_yes hi.2.1, Int.toNat_natCast, Int.toNat_natCast] at e
      rw [e, hr] at this
      cases this
  · have hn := lt_rl hr
    have hs := nums_rl hr
    simp only [rlB, Bool.and_eq_true, decide_eq_true_eq] at hr
    have h1 := land_nat hr.2.2.2
    unfold ilB
    rw [hs.1, hs.2, cnt_rl, hr.2.2.2, ltt_yes hr.2.2.2, Int.toNat_natCast, Int.toNat_natCast, hn]
    simp
    intro e
    rw [e] at h1
    simp at h1
/-- what is read: nothing where the text is not right -/
def rdR (l : List UInt8) : Int := if rlB l then ((rlR l).length : Int) else 0
def rdC (l : List UInt8) : Int := if rlB l then (rlC l : Int) else 0
def rdH (l : List UInt8) : List Int := if rlB l then flt (rlR l) else []
theorem rld_no {l : List UInt8} (h : rlB l = false) : rdR l = 0 ∧ rdC l = 0 ∧ rdH l = [] := by simp [rdR, rdC, rdH, h]
theorem rld_yes {l : List UInt8} (h : rlB l = true) : rdR l = ((rlR l).length : Int) ∧ rdC l = (rlC l : Int) ∧ rdH l = flt (rlR l) := by simp [rdR, rdC, rdH, h]
theorem il_same {l : List UInt8} (h : rlB l = true) : (cnt l : Int) = rdR l ∧ (ilC l : Int) = rdC l ∧ nums l = rdH l := by
  have hy := rld_yes h
  have hs := nums_rl h
  rw [hy.1, hy.2.1, hy.2.2, hs.1, hs.2, cnt_rl]
  exact ⟨rfl, rfl, rfl⟩
/-! the reading, part by part -/
def AllR (c : Nat) (R : List (List UInt8)) (j : Nat) : Prop := ∀ i x, i < j → R[i]? = some x → rowB c x = true
theorem AllR.zero (c : Nat) (R : List (List UInt8)) : AllR c R 0 := fun i _ h => by omega
theorem AllR.next {c : Nat} {R : List (List UInt8)} {k : Nat} {x : List UInt8} (h : AllR c R k) (hx : R[k]? = some x) (hn : rowB c x = true) : AllR c R (k + 1) := fun i y hi hy => by
  by_cases e : i = k
  · subst e; rw [hx] at hy; cases hy; exact hn
  · exact h i y (by omega) hy
theorem AllR.all {c : Nat} {R : List (List UInt8)} (h : AllR c R R.length) : R.all (rowB c) = true := by
  rw [List.all_eq_true]
  intro x hx
  obtain ⟨i, hi, rfl⟩ := List.getElem_of_mem hx
  exact h i _ hi (List.getElem?_eq_getElem hi)
theorem AllR.take {c : Nat} {R : List (List UInt8)} {j : Nat} (h : AllR c R j) : (R.take j).all (rowB c) = true := by
  rw [List.all_eq_true]
  intro x hx
  obtain ⟨i, hi, rfl⟩ := List.getElem_of_mem hx
  rw [List.length_take] at hi
  rw [List.getElem_take]
  exact h i _ (by omega) (List.getElem?_eq_getElem (by omega))
def fT (R : List (List UInt8)) (j : Nat) : List Int := flt (R.take j)
def wT (x : List UInt8) (k : Nat) : List Int := ((spl 32 x).take k).map numV
theorem fT_zero (R : List (List UInt8)) : fT R 0 = [] := rfl
theorem fT_next {R : List (List UInt8)} {j : Nat} {x : List UInt8} (h : R[j]? = some x) : fT R (j + 1) = fT R j ++ rowN x := by
  unfold fT flt
  rw [List.take_add_one, h]
  simp
theorem fT_all (R : List (List UInt8)) : fT R R.length = flt R := by rw [fT, List.take_length]
theorem wT_zero (x : List UInt8) : wT x 0 = [] := rfl
theorem wT_next {x p : List UInt8} {k : Nat} (h : (spl 32 x)[k]? = some p) : wT x (k + 1) = wT x k ++ [numV p] := by
  unfold wT
  rw [List.take_add_one, h]
  simp
theorem wT_all (x : List UInt8) : wT x (spl 32 x).length = rowN x := by rw [wT, List.take_length]; rfl
theorem wT_len {x : List UInt8} {k : Nat} (h : k ≤ (spl 32 x).length) : (wT x k).length = k := by simp [wT]; omega
theorem fT_len {c : Nat} {R : List (List UInt8)} {j : Nat} (h : AllR c R j) (hj : j ≤ R.length) : (fT R j).length = j * c := by
  rw [fT, flt_len h.take, List.length_take, Nat.min_eq_left hj]
theorem numB_ne {x : List UInt8} (h : numB x = true) : x ≠ [] := by
  rintro rfl
  revert h
  decide
theorem words_le {P : List (List UInt8)} (h : P.all numB = true) : P.length ≤ (jn 32 P).length := by
  match P with
  | [] => simp
  | x :: r =>
    simp only [List.all_cons, Bool.and_eq_true] at h
    have h1 := List.length_pos_iff.2 (numB_ne h.1)
    have h2 := jn_ge 32 r x
    rw [List.length_cons]
    omega
theorem row_le {c : Nat} {x : List UInt8} (h : rowB c x = true) : (rowN x).length ≤ x.length := by
  simp only [rowB, Bool.and_eq_true] at h
  have := words_le h.2
  rw [jn_spl] at this
  rw [rowN, List.length_map]
  exact this
theorem flt_le {c : Nat} : ∀ {R : List (List UInt8)}, R.all (rowB c) = true → (flt R).length ≤ (jn 10 (R ++ [[]])).length
  | [], _ => by simp [flt]
  | x :: r, h => by
    simp only [List.all_cons, Bool.and_eq_true] at h
    have ih := flt_le h.2
    have h1 := row_le h.1
    have e : jn 10 (x :: r ++ [[]]) = x ++ 10 :: jn 10 (r ++ [[]]) := by cases r <;> rfl
    unfold flt at *
    rw [e, List.flatMap_cons, List.length_append, List.length_append, List.length_cons]
    omega
theorem rl_no1 {l : List UInt8} (h : ¬ (spl 10 l).getLast? = some []) : rlB l = false := by simp [rlB, h]
theorem rl_no2 {l : List UInt8} (h : inR ((rlR l).length : Int) 1 12 = false) : rlB l = false := by simp [rlB, h]
theorem rl_no3 {l x : List UInt8} (hx : x ∈ rlR l) (h : rowB (rlC l) x = false) : rlB l = false := by
  have : (rlR l).all (rowB (rlC l)) = false := by
    rw [List.all_eq_false]
    exact ⟨x, hx, by simp [h]⟩
  simp [rlB, this]
theorem rl_of {l : List UInt8} (h : (spl 10 l).getLast? = some []) (h2 : inR ((rlR l).length : Int) 1 12 = true) (h3 : (rlR l).all (rowB (rlC l)) = true) : rlB l = landOk ((rlR l).length : Int) (rlC l : Int) (flt (rlR l)) := by simp [rlB, h, h2, h3]
theorem row_no1 {c : Nat} {x : List UInt8} (h : ¬ (spl 32 x).length = c) : rowB c x = false := by simp [rowB, h]
theorem row_no2 {c : Nat} {x p : List UInt8} (hx : p ∈ spl 32 x) (h : numB p = false) : rowB c x = false := by
  have : (spl 32 x).all numB = false := by
    rw [List.all_eq_false]
    exact ⟨p, hx, by simp [h]⟩
  simp [rowB, this]
theorem row_yes {c : Nat} {x : List UInt8} (h : (spl 32 x).length = c) (h2 : ∀ p ∈ spl 32 x, numB p = true) : rowB c x = true := by
  have : (spl 32 x).all numB = true := List.all_eq_true.2 h2
  simp [rowB, h, this]
theorem rdH_len (l : List UInt8) : (rdH l).length ≤ l.length := by
  cases h : rlB l
  · rw [(rld_no h).2.2]; simp
  · rw [(rld_yes h).2.2]
    simp only [rlB, Bool.and_eq_true, decide_eq_true_eq] at h
    have h1 := flt_le h.2.2.1
    rw [rl_last h.1] at h1
    exact h1
end Go.Proofs.YtcjfdfjimcapkaaDoor
