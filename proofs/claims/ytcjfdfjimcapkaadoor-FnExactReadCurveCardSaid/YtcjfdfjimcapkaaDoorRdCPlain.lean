/-
  Plain words on reading a storage curve's text back, without any program text. No condition.
-/
import Derived.Test.YtcjfdfjimcapkaaDoorFldPlain
import Derived.Test.YtcjfdfjimcapkaaDoorCtPlain
namespace Go.Proofs.YtcjfdfjimcapkaaDoor
set_option linter.unusedVariables false
open Go.RowKit
/-- a knot's text is right, and its two numbers -/
def pkB (w : List UInt8) : Bool := decide ((spl 58 w).length = 2) && (numB ((spl 58 w).getD 0 []) && numB ((spl 58 w).getD 1 []))
def pkL (w : List UInt8) : Int := numV ((spl 58 w).getD 0 [])
def pkV (w : List UInt8) : Int := numV ((spl 58 w).getD 1 [])
/-- the strict reading -/
def rcL (l : List UInt8) : List Int := (spl 32 l).map pkL
def rcV (l : List UInt8) : List Int := (spl 32 l).map pkV
def rcB (l : List UInt8) : Bool := (spl 32 l).all pkB && curveOk (rcL l) (rcV l)
/-- every second number -/
def evs : List Int → List Int
  | x :: _ :: r => x :: evs r
  | _ => []
def ods : List Int → List Int
  | _ :: y :: r => y :: ods r
  | _ => []
def mix : List Int → List Int → List Int
  | x :: xs, y :: ys => x :: y :: mix xs ys
  | _, _ => []
theorem evs_mix : ∀ (xs ys : List Int), xs.length = ys.length → evs (mix xs ys) = xs
  | [], [], _ => rfl
  | x :: xs, y :: ys, h => by rw [mix, evs, evs_mix xs ys (by simpa using h)]
theorem ods_mix : ∀ (xs ys : List Int), xs.length = ys.length → ods (mix xs ys) = ys
  | [], [], _ => rfl
  | x :: xs, y :: ys, h => by rw [mix, ods, ods_mix xs ys (by simpa using h)]
theorem mix_in : ∀ (xs ys : List Int) (n : Int), n ∈ mix xs ys → n ∈ xs ∨ n ∈ ys
  | [], _, n, h => by simp [mix] at h
  | x :: xs, [], n, h => by simp [mix] at h
  | x :: xs, y :: ys, n, h => by
    rw [mix] at h
    rcases List.mem_cons.1 h with h | h
    · subst h; simp
    · rcases List.mem_cons.1 h with h | h
      · subst h; simp
      · rcases mix_in xs ys n h with h | h <;> simp [h]
theorem mix_snoc : ∀ (xs ys : List Int) (x y : Int), xs.length = ys.length → mix (xs ++ [x]) (ys ++ [y]) = mix xs ys ++ [x, y]
  | [], [], _, _, _ => rfl
  | a :: xs, b :: ys, x, y, h => by
    have := mix_snoc xs ys x y (by simpa using h)
    simp only [List.cons_append, mix, this]
/-- a knot's text -/
def kn (a b : Int) : List UInt8 := Lib.itoa a ++ 58 :: Lib.itoa b
theorem spl_kn (a b : Int) : spl 58 (kn a b) = [Lib.itoa a, Lib.itoa b] := by
  rw [kn, spl_app, spl_word (itoa_no a (by decide) (by decide)), spl_word (itoa_no b (by decide) (by decide))]
  rfl
theorem kn_no (a b : Int) : (32 : UInt8) ∉ kn a b := by
  unfold kn
  simp only [List.mem_append, List.mem_cons]
  rintro (h | h | h)
  · exact itoa_no a (by decide) (by decide) h
  · exact absurd h (by decide)
  · exact itoa_no b (by decide) (by decide) h
theorem flds_kn (a b : Int) : flds (kn a b) = [Lib.itoa a, Lib.itoa b] := by
  rw [kn, flds_sep (by decide), flds_num, flds_num]
  rfl
theorem pk_kn {a b : Int} (ha : -1000000000000000000 < a ∧ a < 1000000000000000000) (hb : -1000000000000000000 < b ∧ b < 1000000000000000000) : pkB (kn a b) = true ∧ pkL (kn a b) = a ∧ pkV (kn a b) = b := by
  have h1 := num_itoa ha.1 ha.2
  have h2 := num_itoa hb.1 hb.2
  unfold pkB pkL pkV
  rw [spl_kn]
  simp [h1.1, h1.2, h2.1, h2.2]
theorem kn_pk {w : List UInt8} (h : pkB w = true) : kn (pkL w) (pkV w) = w := by
  unfold pkB at h
  simp only [Bool.and_eq_true, decide_eq_true_eq] at h
  obtain ⟨hl, h1, h2⟩ := h
  have hj := jn_spl 58 w
  unfold kn pkL pkV
  match hs : spl 58 w, hl with
  | [x, y], _ =>
    rw [hs] at h1 h2 hj
    simp only [List.getD_cons_zero, List.getD_cons_succ] at h1 h2 ⊢
    rw [num_text h1, num_text h2]
    exact hj
/-- the text of two lists of numbers -/
def ctOf (ls vs : List Int) : List UInt8 := ctTo ls vs ls.length
theorem gt_app {xs : List Int} {y : Int} {k : Nat} (h : k < xs.length) : gt (xs ++ [y]) k = gt xs k := by
  unfold gt
  rw [List.getD_eq_getElem?_getD, List.getD_eq_getElem?_getD, List.getElem?_append_left h]
theorem gt_mid {xs : List Int} {y : Int} : gt (xs ++ [y]) xs.length = y := by
  unfold gt
  simp
theorem ctTo_app {ls vs : List Int} {a b : Int} : ∀ k, k ≤ ls.length → ls.length = vs.length → ctTo (ls ++ [a]) (vs ++ [b]) k = ctTo ls vs k
  | 0, _, _ => rfl
  | k + 1, hk, h => by rw [ctTo, ctTo, ctTo_app k (by omega) h, gt_app (by omega), gt_app (by omega)]
theorem ctOf_one (a b : Int) : ctOf [a] [b] = kn a b := by
  unfold ctOf kn
  simp [ctTo, gt]
theorem ctOf_snoc {ls vs : List Int} {a b : Int} (h : ls.length = vs.length) (h0 : 0 < ls.length) : ctOf (ls ++ [a]) (vs ++ [b]) = ctOf ls vs ++ 32 :: kn a b := by
  unfold ctOf
  rw [List.length_append, show ([a] : List Int).length = 1 from rfl, ctTo, ctTo_app _ (by omega) h, if_neg (by omega), gt_mid, h, gt_mid]
  simp [kn]
/-- the list of a pair of lists, from the last on -/
theorem two_rec {p : List Int → List Int → Prop} (h0 : p [] []) (h1 : ∀ xs ys x y, xs.length = ys.length → p xs ys → p (xs ++ [x]) (ys ++ [y])) : ∀ (n : Nat) (xs ys : List Int), xs.length = n → ys.length = n → p xs ys
  | 0, xs, ys, hx, hy => by
    rw [List.length_eq_zero_iff.1 hx, List.length_eq_zero_iff.1 hy]
    exact h0
  | n + 1, xs, ys, hx, hy => by
    have ex : xs ≠ [] := fun e => by rw [e] at hx; simp at hx
    have ey : ys ≠ [] := fun e => by rw [e] at hy; simp at hy
    have lx : xs.dropLast.length = n := by rw [List.length_dropLast]; omega
    have ly : ys.dropLast.length = n := by rw [List.length_dropLast]; omega
    have := h1 xs.dropLast ys.dropLast (xs.getLast ex) (ys.getLast ey) (by omega) (two_rec h0 h1 n _ _ lx ly)
    rwa [List.dropLast_concat_getLast, List.dropLast_concat_getLast] at this
theorem zip_snoc (xs ys : List Int) (x y : Int) (h : xs.length = ys.length) : List.zipWith kn (xs ++ [x]) (ys ++ [y]) = List.zipWith kn xs ys ++ [kn x y] := by
  rw [List.zipWith_append h]
  rfl
theorem zip_len (xs ys : List Int) (h : xs.length = ys.length) : (List.zipWith kn xs ys).length = xs.length := by simp [h]
theorem ct_zip (n : Nat) (ls vs : List Int) (h1 : ls.length = n) (h2 : vs.length = n) : ctOf ls vs = jn 32 (List.zipWith kn ls vs) := by
  refine two_rec (p := fun ls vs => ctOf ls vs = jn 32 (List.zipWith kn ls vs)) rfl ?_ n ls vs h1 h2
  intro xs ys x y h ih
  by_cases h0 : 0 < xs.length
  · rw [ctOf_snoc h h0, zip_snoc xs ys x y h, jn_snoc _ _ (fun e => by have := zip_len xs ys h; rw [e] at this; simp at this; omega), ih]
  · obtain rfl : xs = [] := List.length_eq_zero_iff.1 (by omega)
    obtain rfl : ys = [] := List.length_eq_zero_iff.1 (by simpa using h.symm)
    rw [List.nil_append, List.nil_append, ctOf_one]
    rfl
theorem spl_zip (n : Nat) (ls vs : List Int) (h1 : ls.length = n) (h2 : vs.length = n) (h0 : 0 < n) : spl 32 (ctOf ls vs) = List.zipWith kn ls vs := by
  refine two_rec (p := fun ls vs => 0 < ls.length → spl 32 (ctOf ls vs) = List.zipWith kn ls vs) (fun h => by simp at h) ?_ n ls vs h1 h2 (by omega)
  intro xs ys x y h ih _
  by_cases h0 : 0 < xs.length
  · rw [ctOf_snoc h h0, spl_app, spl_word (kn_no x y), ih h0, zip_snoc xs ys x y h]
  · obtain rfl : xs = [] := List.length_eq_zero_iff.1 (by omega)
    obtain rfl : ys = [] := List.length_eq_zero_iff.1 (by simpa using h.symm)
    rw [List.nil_append, List.nil_append, ctOf_one, spl_word (kn_no x y)]
    rfl
theorem flds_zip (n : Nat) (ls vs : List Int) (h1 : ls.length = n) (h2 : vs.length = n) : flds (ctOf ls vs) = (mix ls vs).map Lib.itoa := by
  refine two_rec (p := fun ls vs => flds (ctOf ls vs) = (mix ls vs).map Lib.itoa) rfl ?_ n ls vs h1 h2
  intro xs ys x y h ih
  by_cases h0 : 0 < xs.length
  · rw [ctOf_snoc h h0, flds_sep (by decide), flds_kn, ih, mix_snoc xs ys x y h]
    simp
  · obtain rfl : xs = [] := List.length_eq_zero_iff.1 (by omega)
    obtain rfl : ys = [] := List.length_eq_zero_iff.1 (by simpa using h.symm)
    rw [List.nil_append, List.nil_append, ctOf_one, flds_kn]
    rfl
theorem kn_small (a b : Int) : ∀ c ∈ kn a b, c.toNat < 128 := by
  unfold kn
  intro c hc
  rcases List.mem_append.1 hc with h | h
  · exact itoa_small a c h
  · rcases List.mem_cons.1 h with h | h
    · subst h; decide
    · exact itoa_small b c h
theorem ct_small (n : Nat) (ls vs : List Int) (h1 : ls.length = n) (h2 : vs.length = n) : ∀ c ∈ ctOf ls vs, c.toNat < 128 := by
  refine two_rec (p := fun ls vs => ∀ c ∈ ctOf ls vs, c.toNat < 128) (fun c hc => by simp [ctOf, ctTo] at hc) ?_ n ls vs h1 h2
  intro xs ys x y h ih c hc
  by_cases h0 : 0 < xs.length
  · rw [ctOf_snoc h h0] at hc
    rcases List.mem_append.1 hc with h | h
    · exact ih c h
    · rcases List.mem_cons.1 h with h | h
      · subst h; decide
      · exact kn_small x y c h
  · obtain rfl : xs = [] := List.length_eq_zero_iff.1 (by omega)
    obtain rfl : ys = [] := List.length_eq_zero_iff.1 (by simpa using h.symm)
    rw [List.nil_append, List.nil_append, ctOf_one] at hc
    exact kn_small x y c hc
theorem ok_parts {ls vs : List Int} (h : curveOk ls vs = true) : vs.length = ls.length ∧ 2 ≤ ls.length ∧ (∀ n ∈ ls, -1000000000000000000 < n ∧ n < 1000000000000000000) ∧ ∀ n ∈ vs, -1000000000000000000 < n ∧ n < 1000000000000000000 := by
  unfold curveOk at h
  simp only [Bool.and_eq_true, decide_eq_true_eq] at h
  obtain ⟨h1, h2, h3, h4, _⟩ := h
  have := inR_of h1
  refine ⟨h2, by omega, fun n hn => ?_, fun n hn => ?_⟩
  · obtain ⟨k, hk, rfl⟩ := mem_gt hn
    have := (risesB_of h3).1 k hk
    omega
  · obtain ⟨k, hk, rfl⟩ := mem_gt hn
    have := (risesB_of h4).1 k hk
    omega
/-- reading what was written -/
theorem rc_ct {ls vs : List Int} (h : curveOk ls vs = true) : rcB (ctOf ls vs) = true ∧ rcL (ctOf ls vs) = ls ∧ rcV (ctOf ls vs) = vs ∧ nums (ctOf ls vs) = mix ls vs := by
  obtain ⟨hl, h2, b1, b2⟩ := ok_parts h
  have hs := spl_zip ls.length ls vs rfl hl (by omega)
  have e : (List.zipWith kn ls vs).all pkB = true ∧ (List.zipWith kn ls vs).map pkL = ls ∧ (List.zipWith kn ls vs).map pkV = vs := by
    clear hs h h2
    induction ls generalizing vs with
    | nil => obtain rfl : vs = [] := List.length_eq_zero_iff.1 (by simpa using hl); simp
    | cons x xs ih =>
      match vs, hl with
      | y :: ys, hl =>
        have := ih (vs := ys) (by simpa using hl) (fun n hn => b1 n (by simp [hn])) (fun n hn => b2 n (by simp [hn]))
        have hk := pk_kn (b1 x (by simp)) (b2 y (by simp))
        rw [List.zipWith_cons_cons, List.all_cons, List.map_cons, List.map_cons, this.1, this.2.1, this.2.2, hk.1, hk.2.1, hk.2.2]
        exact ⟨rfl, rfl, rfl⟩
  have eL : rcL (ctOf ls vs) = ls := by rw [rcL, hs]; exact e.2.1
  have eV : rcV (ctOf ls vs) = vs := by rw [rcV, hs]; exact e.2.2
  refine ⟨?_, eL, eV, nums_of (ct_small _ ls vs rfl hl) (flds_zip _ ls vs rfl hl) ?_⟩
  · rw [rcB, eL, eV, h, hs, e.1]
    rfl
  · intro n hn
    rcases mix_in ls vs n hn with h | h
    · exact b1 n h
    · exact b2 n h
/-- what is read was written -/
theorem ct_rc {l : List UInt8} (h : rcB l = true) : ctOf (rcL l) (rcV l) = l := by
  unfold rcB at h
  simp only [Bool.and_eq_true] at h
  rw [ct_zip (spl 32 l).length (rcL l) (rcV l) (by simp [rcL]) (by simp [rcV])]
  have e : List.zipWith kn (rcL l) (rcV l) = spl 32 l := by
    have ha := h.1
    unfold rcL rcV
    generalize spl 32 l = P at ha
    induction P with
    | nil => rfl
    | cons x r ih =>
      simp only [List.all_cons, Bool.and_eq_true] at ha
      rw [List.map_cons, List.map_cons, List.zipWith_cons_cons, ih ha.2, kn_pk ha.1]
  rw [e, jn_spl]
/-- the program's reading -/
def icB (l : List UInt8) : Bool := curveOk (evs (nums l)) (ods (nums l)) && decide (ctText (evs (nums l)) (ods (nums l)) = l)
theorem ct_text {ls vs : List Int} (h : curveOk ls vs = true) : ctText ls vs = ctOf ls vs := ctt_yes h
theorem ic_rc (l : List UInt8) : icB l = rcB l := by
  rcases hr : rcB l with _ | _
  · rcases hi : icB l with _ | _
    · rfl
    · unfold icB at hi
      simp only [Bool.and_eq_true, decide_eq_true_eq] at hi
      have := (rc_ct hi.1).1
      rw [← ct_text hi.1, hi.2, hr] at this
      exact this.symm
  · have hc := ct_rc hr
    have ho : curveOk (rcL l) (rcV l) = true := by
      unfold rcB at hr
      simp only [Bool.and_eq_true] at hr
      exact hr.2
    have h4 := (rc_ct ho).2.2.2
    rw [hc] at h4
    have hl := (ok_parts ho).1
    unfold icB
    rw [h4, evs_mix _ _ hl.symm, ods_mix _ _ hl.symm, ho, ct_text ho, hc]
    simp
theorem ic_same {l : List UInt8} (h : rcB l = true) : evs (nums l) = rcL l ∧ ods (nums l) = rcV l := by
  have ho : curveOk (rcL l) (rcV l) = true := by
    unfold rcB at h
    simp only [Bool.and_eq_true] at h
    exact h.2
  have h4 := (rc_ct ho).2.2.2
  rw [ct_rc h] at h4
  have hl := (ok_parts ho).1
  rw [h4]
  exact ⟨evs_mix _ _ hl.symm, ods_mix _ _ hl.symm⟩
/-! the reading, part by part -/
theorem pk_ne {w : List UInt8} (h : pkB w = true) : w ≠ [] := by
  rintro rfl
  simp [pkB, spl] at h
def AllP (P : List (List UInt8)) (j : Nat) : Prop := ∀ i x, i < j → P[i]? = some x → pkB x = true
theorem AllP.zero (P : List (List UInt8)) : AllP P 0 := fun i _ h => by omega
theorem AllP.next {P : List (List UInt8)} {k : Nat} {x : List UInt8} (h : AllP P k) (hx : P[k]? = some x) (hn : pkB x = true) : AllP P (k + 1) := fun i y hi hy => by
  by_cases e : i = k
  · subst e; rw [hx] at hy; cases hy; exact hn
  · exact h i y (by omega) hy
theorem AllP.all {P : List (List UInt8)} (h : AllP P P.length) : P.all pkB = true := by
  rw [List.all_eq_true]
  intro x hx
  obtain ⟨i, hi, rfl⟩ := List.getElem_of_mem hx
  exact h i _ hi (List.getElem?_eq_getElem hi)
theorem parts_le {l : List UInt8} (h : (spl 32 l).all pkB = true) : (spl 32 l).length ≤ l.length := by
  have hj := jn_spl 32 l
  match hs : spl 32 l with
  | [] => simp
  | x :: r =>
    rw [hs] at h hj
    simp only [List.all_cons, Bool.and_eq_true] at h
    have h1 := List.length_pos_iff.2 (pk_ne h.1)
    have h2 := jn_ge 32 r x
    rw [hj] at h2
    rw [List.length_cons]
    omega
def kL (P : List (List UInt8)) (j : Nat) : List Int := (P.take j).map pkL
def kV (P : List (List UInt8)) (j : Nat) : List Int := (P.take j).map pkV
theorem kL_next {P : List (List UInt8)} {k : Nat} {x : List UInt8} (h : P[k]? = some x) : kL P (k + 1) = kL P k ++ [pkL x] := by
  unfold kL
  rw [List.take_add_one, h]
  simp
theorem kV_next {P : List (List UInt8)} {k : Nat} {x : List UInt8} (h : P[k]? = some x) : kV P (k + 1) = kV P k ++ [pkV x] := by
  unfold kV
  rw [List.take_add_one, h]
  simp
theorem kL_len {P : List (List UInt8)} {k : Nat} (h : k ≤ P.length) : (kL P k).length = k := by simp [kL]; omega
theorem kV_len {P : List (List UInt8)} {k : Nat} (h : k ≤ P.length) : (kV P k).length = k := by simp [kV]; omega
theorem kL_all (l : List UInt8) : kL (spl 32 l) (spl 32 l).length = rcL l := by rw [kL, List.take_length]; rfl
theorem kV_all (l : List UInt8) : kV (spl 32 l) (spl 32 l).length = rcV l := by rw [kV, List.take_length]; rfl
theorem rc_bad {l x : List UInt8} (h : x ∈ spl 32 l) (hx : pkB x = false) : rcB l = false := by
  unfold rcB
  rw [Bool.and_eq_false_iff]
  refine .inl ?_
  rw [← Bool.not_eq_true, List.all_eq_true]
  intro ha
  rw [ha x h] at hx
  cases hx
theorem rc_of {l : List UInt8} (h : (spl 32 l).all pkB = true) : rcB l = curveOk (rcL l) (rcV l) := by rw [rcB, h, Bool.true_and]
theorem pk_two {x a b : List UInt8} (h : spl 58 x = [a, b]) : pkB x = (numB a && numB b) ∧ pkL x = numV a ∧ pkV x = numV b := by
  unfold pkB pkL pkV
  rw [h]
  simp
theorem pk_not {x : List UInt8} (h : ¬ (spl 58 x).length = 2) : pkB x = false := by simp [pkB, h]
/-- what is read: none where the text is not right -/
def rdL (l : List UInt8) : List Int := if rcB l then rcL l else []
def rdV (l : List UInt8) : List Int := if rcB l then rcV l else []
theorem rd_no {l : List UInt8} (h : rcB l = false) : rdL l = [] ∧ rdV l = [] := by simp [rdL, rdV, h]
theorem rd_yes {l : List UInt8} (h : rcB l = true) : rdL l = rcL l ∧ rdV l = rcV l := by simp [rdL, rdV, h]
theorem rdL_len (l : List UInt8) : (rdL l).length ≤ l.length := by
  cases h : rcB l
  · rw [(rd_no h).1]; simp
  · rw [(rd_yes h).1, rcL, List.length_map]
    unfold rcB at h
    simp only [Bool.and_eq_true] at h
    exact parts_le h.1
theorem rdV_len (l : List UInt8) : (rdV l).length ≤ l.length := by
  cases h : rcB l
  · rw [(rd_no h).2]; simp
  · rw [(rd_yes h).2, rcV, List.length_map]
    unfold rcB at h
    simp only [Bool.and_eq_true] at h
    exact parts_le h.1
/-! every second number, step by step -/
def eT (N : List Int) (k : Nat) : List Int := (List.range k).map fun i => gt N (2 * i)
def oT (N : List Int) (k : Nat) : List Int := (List.range k).map fun i => gt N (2 * i + 1)
theorem eT_len (N : List Int) (k : Nat) : (eT N k).length = k := by simp [eT]
theorem oT_len (N : List Int) (k : Nat) : (oT N k).length = k := by simp [oT]
theorem eT_next (N : List Int) (k : Nat) : eT N (k + 1) = eT N k ++ [gt N (2 * k)] := by simp [eT, List.range_succ]
theorem oT_next (N : List Int) (k : Nat) : oT N (k + 1) = oT N k ++ [gt N (2 * k + 1)] := by simp [oT, List.range_succ]
theorem half_two {α : Type} (x y : α) (r : List α) : (x :: y :: r).length / 2 = r.length / 2 + 1 := by simp only [List.length_cons]; omega
theorem gt_two (x y : Int) (r : List Int) (i : Nat) : gt (x :: y :: r) (i + 2) = gt r i := by simp [gt]
theorem eT_all : ∀ N : List Int, eT N (N.length / 2) = evs N
  | [] => rfl
  | [_] => by simp [eT, evs]
  | x :: y :: r => by
    have ih := eT_all r
    have e : eT (x :: y :: r) (r.length / 2 + 1) = x :: eT r (r.length / 2) := by
      unfold eT
      rw [List.range_succ_eq_map, List.map_cons, List.map_map]
      refine List.cons_eq_cons.2 ⟨by simp [gt], List.map_congr_left fun i _ => ?_⟩
      show gt (x :: y :: r) (2 * (i + 1)) = gt r (2 * i)
      rw [show 2 * (i + 1) = 2 * i + 2 by omega, gt_two]
    rw [half_two, evs, e, ih]
theorem oT_all : ∀ N : List Int, oT N (N.length / 2) = ods N
  | [] => rfl
  | [_] => by simp [oT, ods]
  | x :: y :: r => by
    have ih := oT_all r
    have e : oT (x :: y :: r) (r.length / 2 + 1) = y :: oT r (r.length / 2) := by
      unfold oT
      rw [List.range_succ_eq_map, List.map_cons, List.map_map]
      refine List.cons_eq_cons.2 ⟨by simp [gt], List.map_congr_left fun i _ => ?_⟩
      show gt (x :: y :: r) (2 * (i + 1) + 1) = gt r (2 * i + 1)
      rw [show 2 * (i + 1) + 1 = 2 * i + 1 + 2 by omega, gt_two]
    rw [half_two, ods, e, ih]
end Go.Proofs.YtcjfdfjimcapkaaDoor
