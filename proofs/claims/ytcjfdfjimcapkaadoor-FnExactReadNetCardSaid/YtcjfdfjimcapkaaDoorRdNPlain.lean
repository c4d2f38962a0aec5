/-
  Plain words on reading a net's text back, without any program text. No condition.
-/
import Derived.Test.YtcjfdfjimcapkaaDoorFldPlain
import Derived.Test.YtcjfdfjimcapkaaDoorNtPlain
namespace Go.Proofs.YtcjfdfjimcapkaaDoor
set_option linter.unusedVariables false
open Go.RowKit
/-- a ditch's text is right, and its three numbers -/
def dkR (w : List UInt8) : List UInt8 := (spl 62 w).getD 1 []
def dkB (w : List UInt8) : Bool := decide ((spl 62 w).length = 2) && (decide ((spl 61 (dkR w)).length = 2) && (numB ((spl 62 w).getD 0 []) && (numB ((spl 61 (dkR w)).getD 0 []) && numB ((spl 61 (dkR w)).getD 1 []))))
def dkF (w : List UInt8) : Int := numV ((spl 62 w).getD 0 [])
def dkT (w : List UInt8) : Int := numV ((spl 61 (dkR w)).getD 0 [])
def dkW (w : List UInt8) : Int := numV ((spl 61 (dkR w)).getD 1 [])
theorem dk_not {w : List UInt8} (h : ¬ (spl 62 w).length = 2) : dkB w = false := by simp [dkB, h]
theorem dk_two {w p r : List UInt8} (h : spl 62 w = [p, r]) (h2 : ¬ (spl 61 r).length = 2) : dkB w = false := by
  have e : dkR w = r := by rw [dkR, h]; rfl
  simp [dkB, e, h2]
theorem dk_three {w p r q s : List UInt8} (h : spl 62 w = [p, r]) (h2 : spl 61 r = [q, s]) : dkB w = (numB p && (numB q && numB s)) ∧ dkF w = numV p ∧ dkT w = numV q ∧ dkW w = numV s := by
  have e : dkR w = r := by rw [dkR, h]; rfl
  unfold dkB dkF dkT dkW
  rw [e, h, h2]
  simp
/-- the text of a ditch -/
def dn (a b c : Int) : List UInt8 := Lib.itoa a ++ 62 :: (Lib.itoa b ++ 61 :: Lib.itoa c)
theorem spl_dn (a b c : Int) : spl 62 (dn a b c) = [Lib.itoa a, Lib.itoa b ++ 61 :: Lib.itoa c] := by
  rw [dn, spl_app, spl_word (itoa_no a (by decide) (by decide)), spl_word (x := Lib.itoa b ++ 61 :: Lib.itoa c)]
  · rfl
  · simp only [List.mem_append, List.mem_cons]
    rintro (h | h | h)
    · exact itoa_no b (by decide) (by decide) h
    · exact absurd h (by decide)
    · exact itoa_no c (by decide) (by decide) h
theorem spl_dn2 (b c : Int) : spl 61 (Lib.itoa b ++ 61 :: Lib.itoa c) = [Lib.itoa b, Lib.itoa c] := by
  rw [spl_app, spl_word (itoa_no b (by decide) (by decide)), spl_word (itoa_no c (by decide) (by decide))]
  rfl
theorem dn_no (a b c : Int) : (32 : UInt8) ∉ dn a b c := by
  unfold dn
  simp only [List.mem_append, List.mem_cons]
  rintro (h | h | h | h | h)
  · exact itoa_no a (by decide) (by decide) h
  · exact absurd h (by decide)
  · exact itoa_no b (by decide) (by decide) h
  · exact absurd h (by decide)
  · exact itoa_no c (by decide) (by decide) h
theorem flds_dn (a b c : Int) : flds (dn a b c) = [Lib.itoa a, Lib.itoa b, Lib.itoa c] := by
  rw [dn, flds_sep (by decide), flds_sep (by decide), flds_num, flds_num, flds_num]
  rfl
theorem dn_small (a b c : Int) : ∀ x ∈ dn a b c, x.toNat < 128 := by
  intro x h
  unfold dn at h
  simp only [List.mem_append, List.mem_cons] at h
  rcases h with h | h | h | h | h
  · exact itoa_small a x h
  · subst h; decide
  · exact itoa_small b x h
  · subst h; decide
  · exact itoa_small c x h
def Fits (n : Int) : Prop := -1000000000000000000 < n ∧ n < 1000000000000000000
theorem dk_dn {a b c : Int} (ha : Fits a) (hb : Fits b) (hc : Fits c) : dkB (dn a b c) = true ∧ dkF (dn a b c) = a ∧ dkT (dn a b c) = b ∧ dkW (dn a b c) = c := by
  have h1 := num_itoa ha.1 ha.2
  have h2 := num_itoa hb.1 hb.2
  have h3 := num_itoa hc.1 hc.2
  have h := dk_three (spl_dn a b c) (spl_dn2 b c)
  rw [h.1, h.2.1, h.2.2.1, h.2.2.2, h1.1, h2.1, h3.1, h1.2, h2.2, h3.2]
  exact ⟨rfl, rfl, rfl, rfl⟩
theorem two_of {α : Type} {l : List α} (h : l.length = 2) : ∃ p q, l = [p, q] := by
  match l, h with
  | [p, q], _ => exact ⟨p, q, rfl⟩
theorem dn_dk {w : List UInt8} (h : dkB w = true) : dn (dkF w) (dkT w) (dkW w) = w := by
  by_cases h1 : (spl 62 w).length = 2
  · obtain ⟨p, r, e1⟩ := two_of h1
    by_cases h2 : (spl 61 r).length = 2
    · obtain ⟨q, s, e2⟩ := two_of h2
      have h3 := dk_three e1 e2
      rw [h3.1] at h
      simp only [Bool.and_eq_true] at h
      rw [h3.2.1, h3.2.2.1, h3.2.2.2, dn, num_text h.1, num_text h.2.1, num_text h.2.2]
      have j2 := jn_spl 61 r
      have j1 := jn_spl 62 w
      rw [e2] at j2
      rw [e1, ← j2] at j1
      exact j1
    · rw [dk_two e1 h2] at h
      cases h
  · rw [dk_not h1] at h
    cases h
/-- the head's text is right, and its number -/
def hdB (w : List UInt8) : Bool := decide (w.getLast? = some 58) && numB w.dropLast
def hdV (w : List UInt8) : Int := numV w.dropLast
theorem hd_itoa {J : Int} (h : Fits J) : hdB (Lib.itoa J ++ [58]) = true ∧ hdV (Lib.itoa J ++ [58]) = J := by
  have h1 := num_itoa h.1 h.2
  simp [hdB, hdV, h1.1, h1.2]
theorem itoa_hd {w : List UInt8} (h : hdB w = true) : Lib.itoa (hdV w) ++ [58] = w := by
  simp only [hdB, Bool.and_eq_true, decide_eq_true_eq] at h
  rw [hdV, num_text h.2]
  have hw : w ≠ [] := fun e => by rw [e] at h; simp at h
  have := List.dropLast_concat_getLast hw
  rw [List.getLast?_eq_some_getLast hw] at h
  rwa [Option.some.inj h.1] at this
/-- three numbers a ditch -/
def flat3 (P : List (List UInt8)) : List Int := P.flatMap fun w => [dkF w, dkT w, dkW w]
def tri (fl : List Int) (n : Nat) : List Int := (List.range n).flatMap fun i => [dF fl i, dT fl i, dW fl i]
def dws (fl : List Int) (n : Nat) : List (List UInt8) := (List.range n).map fun i => dn (dF fl i) (dT fl i) (dW fl i)
theorem tri_next (fl : List Int) (n : Nat) : tri fl (n + 1) = tri fl n ++ [dF fl n, dT fl n, dW fl n] := by simp [tri, List.range_succ]
theorem dws_next (fl : List Int) (n : Nat) : dws fl (n + 1) = dws fl n ++ [dn (dF fl n) (dT fl n) (dW fl n)] := by simp [dws, List.range_succ]
theorem tri_len (fl : List Int) (n : Nat) : (tri fl n).length = n * 3 := by
  induction n with
  | zero => rfl
  | succ n ih => rw [tri_next, List.length_append, ih]; simp; omega
theorem dws_len (fl : List Int) (n : Nat) : (dws fl n).length = n := by simp [dws]
theorem take_gt {fl : List Int} {i : Nat} (h : i < fl.length) : fl.take (i + 1) = fl.take i ++ [gt fl i] := by
  rw [List.take_add_one, List.getElem?_eq_getElem h]
  simp [gt, h]
theorem tri_take {fl : List Int} : ∀ n, n * 3 ≤ fl.length → tri fl n = fl.take (n * 3)
  | 0, _ => by simp [tri]
  | n + 1, h => by
    rw [tri_next, tri_take n (by omega), show (n + 1) * 3 = n * 3 + 1 + 1 + 1 by omega, take_gt (by omega), take_gt (by omega), take_gt (by omega)]
    simp [dF, dT, dW]
theorem tri_all {fl : List Int} {n : Nat} (h : fl.length = n * 3) : tri fl n = fl := by rw [tri_take n (by omega), ← h, List.take_length]
theorem flat3_len (P : List (List UInt8)) : (flat3 P).length = P.length * 3 := by
  induction P with
  | nil => rfl
  | cons x r ih => simp [flat3] at *; omega
theorem flat3_get : ∀ (P : List (List UInt8)) (i : Nat) (x : List UInt8), P[i]? = some x → dF (flat3 P) i = dkF x ∧ dT (flat3 P) i = dkT x ∧ dW (flat3 P) i = dkW x
  | y :: r, 0, x, h => by
    simp at h
    subst h
    simp [dF, dT, dW, flat3, gt]
  | y :: r, i + 1, x, h => by
    have ih := flat3_get r i x (by simpa using h)
    have e : ∀ k, gt (flat3 (y :: r)) (k + 3) = gt (flat3 r) k := fun k => by simp [flat3, gt]
    unfold dF dT dW at *
    rw [show (i + 1) * 3 = i * 3 + 3 by omega, show i * 3 + 3 + 1 = i * 3 + 1 + 3 by omega, show i * 3 + 3 + 2 = i * 3 + 2 + 3 by omega, e, e, e]
    exact ih
theorem dws_flat {P : List (List UInt8)} (h : P.all dkB = true) : dws (flat3 P) P.length = P := by
  refine List.ext_getElem (by simp [dws]) fun i h1 h2 => ?_
  have hg := flat3_get P i P[i] (List.getElem?_eq_getElem h2)
  simp only [dws, List.getElem_map, List.getElem_range]
  rw [hg.1, hg.2.1, hg.2.2]
  exact dn_dk (List.all_eq_true.1 h _ (List.getElem_mem h2))
theorem flat_dws {fl : List Int} {n : Nat} (h : ∀ i, i < n → Fits (dF fl i) ∧ Fits (dT fl i) ∧ Fits (dW fl i)) : flat3 (dws fl n) = tri fl n ∧ (dws fl n).all dkB = true := by
  induction n with
  | zero => exact ⟨rfl, rfl⟩
  | succ n ih =>
    have h1 := ih fun i hi => h i (by omega)
    have h2 := h n (by omega)
    have h3 := dk_dn h2.1 h2.2.1 h2.2.2
    rw [dws_next, tri_next, flat3, List.flatMap_append, ← flat3, h1.1, List.all_append, h1.2]
    simp [h3.1, h3.2.1, h3.2.2.1, h3.2.2.2]
/-- the text of a net, in words -/
theorem hd_no (J : Int) : (32 : UInt8) ∉ Lib.itoa J ++ [58] := by
  simp only [List.mem_append, List.mem_singleton]
  rintro (h | h)
  · exact itoa_no J (by decide) (by decide) h
  · exact absurd h (by decide)
theorem nt_snoc (J : Int) (fl : List Int) (n : Nat) : ntTo J fl (n + 1) = ntTo J fl n ++ 32 :: dn (dF fl n) (dT fl n) (dW fl n) := by
  rw [nt_next, dn]
  simp
theorem spl_nt (J : Int) (fl : List Int) : ∀ n, spl 32 (ntTo J fl n) = (Lib.itoa J ++ [58]) :: dws fl n
  | 0 => spl_word (hd_no J)
  | n + 1 => by rw [nt_snoc, spl_app, spl_nt J fl n, spl_word (dn_no _ _ _), dws_next]; rfl
theorem nt_jn (J : Int) (fl : List Int) : ∀ n, ntTo J fl n = jn 32 ((Lib.itoa J ++ [58]) :: dws fl n)
  | 0 => rfl
  | n + 1 => by rw [nt_snoc, nt_jn J fl n, dws_next, ← List.cons_append, jn_snoc _ _ (by simp)]
theorem flds_nt (J : Int) (fl : List Int) : ∀ n, flds (ntTo J fl n) = (J :: tri fl n).map Lib.itoa
  | 0 => by
    rw [nt_zero, flds_sep (by decide), flds_num, flds_nil]
    rfl
  | n + 1 => by
    rw [nt_snoc, flds_sep (by decide), flds_nt J fl n, flds_dn, tri_next]
    simp
theorem nt_small (J : Int) (fl : List Int) : ∀ n, ∀ x ∈ ntTo J fl n, x.toNat < 128
  | 0, x, h => by
    rw [nt_zero, List.mem_append, List.mem_singleton] at h
    rcases h with h | h
    · exact itoa_small J x h
    · subst h; decide
  | n + 1, x, h => by
    rw [nt_snoc, List.mem_append, List.mem_cons] at h
    rcases h with h | h | h
    · exact nt_small J fl n x h
    · subst h; decide
    · exact dn_small _ _ _ x h
theorem net_fits {J : Int} {n : Nat} {fl : List Int} (h : netOk J n fl = true) : Fits J ∧ ∀ i, i < n → Fits (dF fl i) ∧ Fits (dT fl i) ∧ Fits (dW fl i) := by
  obtain ⟨h1, _, h2⟩ := netOk_of h
  refine ⟨⟨by omega, by omega⟩, fun i hi => ?_⟩
  have := h2 i hi
  exact ⟨⟨by omega, by omega⟩, ⟨by omega, by omega⟩, ⟨by omega, by omega⟩⟩
theorem tri_in {fl : List Int} {x : Int} : ∀ n, x ∈ tri fl n → ∃ i, i < n ∧ (x = dF fl i ∨ x = dT fl i ∨ x = dW fl i)
  | 0, h => by simp [tri] at h
  | n + 1, h => by
    rw [tri_next, List.mem_append] at h
    rcases h with h | h
    · obtain ⟨i, hi, e⟩ := tri_in n h
      exact ⟨i, by omega, e⟩
    · exact ⟨n, by omega, by simpa using h⟩
theorem nums_nt {J : Int} {n : Nat} {fl : List Int} (h : netOk J n fl = true) : nums (ntTo J fl n) = J :: tri fl n := by
  obtain ⟨h1, h2⟩ := net_fits h
  refine nums_of (nt_small J fl n) (flds_nt J fl n) fun x hx => ?_
  rcases List.mem_cons.1 hx with e | e
  · subst e; exact h1
  · obtain ⟨i, hi, e⟩ := tri_in n e
    have := h2 i hi
    rcases e with e | e | e
    · subst e; exact this.1
    · subst e; exact this.2.1
    · subst e; exact this.2.2
/-- the strict reading: the number ahead of the ditches, the ditches' words, their numbers -/
def rnH (l : List UInt8) : List UInt8 := (spl 32 l).headD []
def rnP (l : List UInt8) : List (List UInt8) := (spl 32 l).tail
def rnB (l : List UInt8) : Bool := hdB (rnH l) && ((rnP l).all dkB && netOk (hdV (rnH l)) (rnP l).length (flat3 (rnP l)))
theorem rn_jn (l : List UInt8) : jn 32 (rnH l :: rnP l) = l := by
  have := jn_spl 32 l
  unfold rnH rnP
  cases hs : spl 32 l with
  | nil => exact absurd hs (spl_ne 32 l)
  | cons x r => rw [hs] at this; exact this
theorem rn_nt {J : Int} {n : Nat} {fl : List Int} (h : netOk J n fl = true) : rnB (ntTo J fl n) = true ∧ hdV (rnH (ntTo J fl n)) = J ∧ (rnP (ntTo J fl n)).length = n ∧ flat3 (rnP (ntTo J fl n)) = tri fl n := by
  obtain ⟨h1, h2⟩ := net_fits h
  have hh : rnH (ntTo J fl n) = Lib.itoa J ++ [58] := by rw [rnH, spl_nt]; rfl
  have hp : rnP (ntTo J fl n) = dws fl n := by rw [rnP, spl_nt]; rfl
  have hf := flat_dws h2
  have hi := hd_itoa h1
  have ht : netOk J n (tri fl n) = netOk J n fl := by
    have e : ∀ i, i < n → ditAt J (tri fl n) i = ditAt J fl i := fun i hi => by
      have hg := flat3_get (dws fl n) i (dn (dF fl i) (dT fl i) (dW fl i)) (by simp [dws, hi])
      have hd := dk_dn (h2 i hi).1 (h2 i hi).2.1 (h2 i hi).2.2
      rw [hf.1] at hg
      rw [ditAt, hg.1, hg.2.1, hg.2.2, hd.2.1, hd.2.2.1, hd.2.2.2, ditAt]
    have e2 : ∀ k, k ≤ n → allN (ditAt J (tri fl n)) k = allN (ditAt J fl) k := fun k => by
      induction k with
      | zero => intro _; rfl
      | succ k ih => intro hk; simp only [allN, ih (by omega), e k (by omega)]
    unfold netOk
    rw [e2 n (Nat.le_refl _)]
  refine ⟨?_, by rw [hh, hi.2], by rw [hp, dws_len], by rw [hp, hf.1]⟩
  unfold rnB
  rw [hh, hp, hf.1, hf.2, hi.1, hi.2, dws_len, ht, h]
  rfl
theorem nt_rn {l : List UInt8} (h : rnB l = true) : ntTo (hdV (rnH l)) (flat3 (rnP l)) (rnP l).length = l := by
  unfold rnB at h
  simp only [Bool.and_eq_true] at h
  rw [nt_jn, itoa_hd h.1, dws_flat h.2.1, rn_jn]
/-- the program's reading -/
def inB (l : List UInt8) : Bool := match nums l with
  | [] => false
  | J :: r => netOk J (r.length / 3) (tri r (r.length / 3)) && decide (ntText J (r.length / 3) (tri r (r.length / 3)) = l)
theorem in_no {l : List UInt8} (h : nums l = []) : inB l = false := by rw [inB, h]
theorem in_yes {l : List UInt8} {J : Int} {r : List Int} (h : nums l = J :: r) : inB l = (netOk J (r.length / 3) (tri r (r.length / 3)) && decide (ntText J (r.length / 3) (tri r (r.length / 3)) = l)) := by rw [inB, h]
theorem nums_rn {l : List UInt8} (h : rnB l = true) : nums l = hdV (rnH l) :: flat3 (rnP l) := by
  have hn := nt_rn h
  unfold rnB at h
  simp only [Bool.and_eq_true] at h
  have := nums_nt h.2.2
  rw [hn, tri_all (flat3_len _)] at this
  exact this
theorem in_rn (l : List UInt8) : inB l = rnB l := by
  rcases hr : rnB l with _ | _
  · rcases hi : inB l with _ | _
    · rfl
    · match hs : nums l with
      | [] => rw [in_no hs] at hi; cases hi
      | J :: r =>
        rw [in_yes hs] at hi
        simp only [Bool.and_eq_true, decide_eq_true_eq] at hi
        have := (rn_nt hi.1).1
        rw [← ntt_yes hi.1, hi.2, hr] at this
        cases this
  · have hn := nt_rn hr
    have hs := nums_rn hr
    unfold rnB at hr
    simp only [Bool.and_eq_true] at hr
    have hl := flat3_len (rnP l)
    rw [in_yes hs, hl, Nat.mul_div_cancel _ (by omega), tri_all hl, hr.2.2, ntt_yes hr.2.2, hn]
    simp
theorem in_same {l : List UInt8} (h : rnB l = true) : ∃ J r, nums l = J :: r ∧ J = hdV (rnH l) ∧ r.length / 3 = (rnP l).length ∧ tri r (r.length / 3) = flat3 (rnP l) := by
  have hl := flat3_len (rnP l)
  exact ⟨_, _, nums_rn h, rfl, by rw [hl, Nat.mul_div_cancel _ (by omega)], by rw [hl, Nat.mul_div_cancel _ (by omega), tri_all hl]⟩
/-- what is read: nothing where the text is not right -/
def rnJ (l : List UInt8) : Int := if rnB l then hdV (rnH l) else 0
def rnN (l : List UInt8) : Nat := if rnB l then (rnP l).length else 0
def rnF (l : List UInt8) : List Int := if rnB l then flat3 (rnP l) else []
theorem rnn_no {l : List UInt8} (h : rnB l = false) : rnJ l = 0 ∧ rnN l = 0 ∧ rnF l = [] := by simp [rnJ, rnN, rnF, h]
theorem rnn_yes {l : List UInt8} (h : rnB l = true) : rnJ l = hdV (rnH l) ∧ rnN l = (rnP l).length ∧ rnF l = flat3 (rnP l) := by simp [rnJ, rnN, rnF, h]
theorem rnn_len (l : List UInt8) : (rnF l).length = rnN l * 3 := by
  unfold rnF rnN
  split
  · exact flat3_len _
  · rfl
theorem rnN_le (l : List UInt8) : rnN l ≤ l.length := by
  unfold rnN
  split
  · have := spl_len 32 l
    unfold rnP
    rw [List.length_tail]
    omega
  · exact Nat.zero_le _
/-! the reading, part by part -/
def AllD (P : List (List UInt8)) (j : Nat) : Prop := ∀ i x, i < j → P[i]? = some x → dkB x = true
theorem AllD.zero (P : List (List UInt8)) : AllD P 0 := fun i _ h => by omega
theorem AllD.next {P : List (List UInt8)} {k : Nat} {x : List UInt8} (h : AllD P k) (hx : P[k]? = some x) (hn : dkB x = true) : AllD P (k + 1) := fun i y hi hy => by
  by_cases e : i = k
  · subst e; rw [hx] at hy; cases hy; exact hn
  · exact h i y (by omega) hy
theorem AllD.all {P : List (List UInt8)} (h : AllD P P.length) : P.all dkB = true := by
  rw [List.all_eq_true]
  intro x hx
  obtain ⟨i, hi, rfl⟩ := List.getElem_of_mem hx
  exact h i _ hi (List.getElem?_eq_getElem hi)
def k3 (P : List (List UInt8)) (j : Nat) : List Int := flat3 (P.take j)
theorem k3_next {P : List (List UInt8)} {k : Nat} {x : List UInt8} (h : P[k]? = some x) : k3 P (k + 1) = k3 P k ++ [dkF x, dkT x, dkW x] := by
  unfold k3
  rw [List.take_add_one, h]
  simp [flat3]
theorem k3_len {P : List (List UInt8)} {k : Nat} (h : k ≤ P.length) : (k3 P k).length = k * 3 := by
  rw [k3, flat3_len, List.length_take]
  congr 1
  omega
theorem k3_all (P : List (List UInt8)) : k3 P P.length = flat3 P := by rw [k3, List.take_length]
theorem rn_hd {l : List UInt8} (h : hdB (rnH l) = false) : rnB l = false := by simp [rnB, h]
theorem rn_dk {l x : List UInt8} (hx : x ∈ rnP l) (h : dkB x = false) : rnB l = false := by
  have : (rnP l).all dkB = false := by
    rw [List.all_eq_false]
    exact ⟨x, hx, by simp [h]⟩
  simp [rnB, this]
theorem rn_of {l : List UInt8} (h : hdB (rnH l) = true) (ha : (rnP l).all dkB = true) : rnB l = netOk (hdV (rnH l)) (rnP l).length (flat3 (rnP l)) := by simp [rnB, h, ha]
theorem dk_ne {w : List UInt8} (h : dkB w = true) : w ≠ [] := by
  rintro rfl
  simp [dkB, spl] at h
theorem rnP_le (l : List UInt8) : (rnP l).length ≤ l.length := by
  have := spl_len 32 l
  unfold rnP
  rw [List.length_tail]
  omega
end Go.Proofs.YtcjfdfjimcapkaaDoor
