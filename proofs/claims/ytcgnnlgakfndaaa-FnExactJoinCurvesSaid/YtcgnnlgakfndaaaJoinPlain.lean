/-
  Plain words on two curves joined: the levels by a filter of all levels, and by numbers put to their places, are one list. No condition.
-/
import Derived.Test.YtcgnnlgakfndaaaVolPlain
import Derived.Test.YtcgnnlgakfndaaaHasPlain
namespace Go.Proofs.Ytcgnnlgakfndaaa
set_option linter.unusedVariables false
/-- strictly rising -/
def SU (l : List Int) : Prop := l.Pairwise (· < ·)
theorem su_eq {l m : List Int} (hl : SU l) (hm : SU m) (h : ∀ x, x ∈ l ↔ x ∈ m) : l = m := by
  induction l generalizing m with
  | nil =>
    cases m with
    | nil => rfl
    | cons y m => exact absurd ((h y).2 (by simp)) (by simp)
  | cons x l ih =>
    cases m with
    | nil => exact absurd ((h x).1 (by simp)) (by simp)
    | cons y m =>
      obtain ⟨hx, hl'⟩ := List.pairwise_cons.1 hl
      obtain ⟨hy, hm'⟩ := List.pairwise_cons.1 hm
      have hxy : x = y := by
        rcases List.mem_cons.1 ((h x).1 (by simp)) with h1 | h1
        · exact h1
        · rcases List.mem_cons.1 ((h y).2 (by simp)) with h2 | h2
          · exact h2.symm
          · have h3 := hx y h2
            have h4 := hy x h1
            omega
      subst hxy
      congr 1
      refine ih hl' hm' fun z => ?_
      constructor
      · intro hz
        rcases List.mem_cons.1 ((h z).1 (List.mem_cons_of_mem _ hz)) with h1 | h1
        · have := hx z hz; omega
        · exact h1
      · intro hz
        rcases List.mem_cons.1 ((h z).2 (List.mem_cons_of_mem _ hz)) with h1 | h1
        · have := hy z hz; omega
        · exact h1
theorem gt_mem {xs : List Int} {k : Nat} (hk : k < xs.length) : gt xs k ∈ xs := by
  simp [gt, List.getD_eq_getElem?_getD, List.getElem?_eq_getElem hk]
/-- the levels from a on, the first k of them, that are kept -/
def flTo (q : Int → Bool) (a : Int) : Nat → List Int
  | 0 => []
  | k + 1 => if q (a + (k : Int)) then flTo q a k ++ [a + (k : Int)] else flTo q a k
theorem flTo_yes {q : Int → Bool} {a : Int} {k : Nat} (h : q (a + (k : Int)) = true) : flTo q a (k + 1) = flTo q a k ++ [a + (k : Int)] := by simp [flTo, h]
theorem flTo_no {q : Int → Bool} {a : Int} {k : Nat} (h : q (a + (k : Int)) = false) : flTo q a (k + 1) = flTo q a k := by simp [flTo, h]
theorem flTo_len (q : Int → Bool) (a : Int) (k : Nat) : (flTo q a k).length ≤ k := by
  induction k with
  | zero => simp [flTo]
  | succ k ih =>
    unfold flTo
    split
    · rw [List.length_append, List.length_singleton]; omega
    · omega
theorem flTo_mem {q : Int → Bool} {a x : Int} (k : Nat) : x ∈ flTo q a k ↔ a ≤ x ∧ x < a + (k : Int) ∧ q x = true := by
  induction k with
  | zero => simp [flTo]; omega
  | succ k ih =>
    rcases h : q (a + (k : Int)) with _ | _
    · rw [flTo_no h, ih]
      constructor
      · rintro ⟨h1, h2, h3⟩; exact ⟨h1, by omega, h3⟩
      · rintro ⟨h1, h2, h3⟩
        refine ⟨h1, ?_, h3⟩
        rcases Int.lt_or_le x (a + (k : Int)) with h4 | h4
        · exact h4
        · have : x = a + (k : Int) := by omega
          subst this; rw [h] at h3; cases h3
    · rw [flTo_yes h, List.mem_append, ih, List.mem_singleton]
      constructor
      · rintro (⟨h1, h2, h3⟩ | rfl)
        · exact ⟨h1, by omega, h3⟩
        · exact ⟨by omega, by omega, h⟩
      · rintro ⟨h1, h2, h3⟩
        rcases Int.lt_or_le x (a + (k : Int)) with h4 | h4
        · exact .inl ⟨h1, h4, h3⟩
        · exact .inr (by omega)
theorem flTo_su (q : Int → Bool) (a : Int) (k : Nat) : SU (flTo q a k) := by
  induction k with
  | zero => exact List.Pairwise.nil
  | succ k ih =>
    unfold flTo
    split
    · refine List.pairwise_append.2 ⟨ih, List.pairwise_singleton _ _, fun x hx y hy => ?_⟩
      rw [List.mem_singleton] at hy
      subst hy
      exact ((flTo_mem k).1 hx).2.1
    · exact ih
/-- a number put to its place among the first k, and whether it has been put -/
def puD (l : List Int) (x : Int) : Nat → Bool
  | 0 => false
  | k + 1 => puD l x k || decide (x ≤ gt l k)
def puTo (l : List Int) (x : Int) : Nat → List Int
  | 0 => []
  | k + 1 => (if puD l x k = false ∧ x < gt l k then puTo l x k ++ [x] else puTo l x k) ++ [gt l k]
def puL (l : List Int) (x : Int) : List Int := if puD l x l.length then puTo l x l.length else puTo l x l.length ++ [x]
theorem puTo_len2 (l : List Int) (x : Int) (k : Nat) : (puTo l x k).length ≤ k + (if puD l x k then 1 else 0) := by
  induction k with
  | zero => simp [puTo]
  | succ k ih =>
    by_cases h : puD l x k = true
    · have e : puTo l x (k + 1) = puTo l x k ++ [gt l k] := by simp [puTo, h]
      have ed : puD l x (k + 1) = true := by simp [puD, h]
      rw [h, if_pos rfl] at ih
      rw [e, ed, if_pos rfl, List.length_append, List.length_singleton]
      omega
    · have h' : puD l x k = false := by simpa using h
      rw [h', if_neg (by simp)] at ih
      by_cases h2 : x < gt l k
      · have e : puTo l x (k + 1) = (puTo l x k ++ [x]) ++ [gt l k] := by simp [puTo, h', h2]
        have ed : puD l x (k + 1) = true := by simp [puD, show x ≤ gt l k by omega]
        rw [e, ed, if_pos rfl, List.length_append, List.length_append, List.length_singleton, List.length_singleton]
        omega
      · have e : puTo l x (k + 1) = puTo l x k ++ [gt l k] := by simp [puTo, h2]
        rw [e, List.length_append, List.length_singleton]
        omega
theorem puL_len (l : List Int) (x : Int) : (puL l x).length ≤ l.length + 1 := by
  have h := puTo_len2 l x l.length
  unfold puL
  split
  next h1 => rw [h1] at h; simpa using h
  next h1 => simp [h1] at h; simp; omega
theorem puD_iff {l : List Int} {x : Int} (k : Nat) : puD l x k = true ↔ ∃ i, i < k ∧ x ≤ gt l i := by
  induction k with
  | zero => simp [puD]
  | succ k ih =>
    simp only [puD, Bool.or_eq_true, ih, decide_eq_true_eq]
    constructor
    · rintro (⟨i, h1, h2⟩ | h)
      · exact ⟨i, by omega, h2⟩
      · exact ⟨k, by omega, h⟩
    · rintro ⟨i, h1, h2⟩
      by_cases e : i = k
      · subst e; exact .inr h2
      · exact .inl ⟨i, by omega, h2⟩
theorem su_gt {l : List Int} (h : SU l) {i j : Nat} (hij : i < j) (hj : j < l.length) : gt l i < gt l j := by
  have := List.pairwise_iff_getElem.1 h i j (by omega) hj hij
  simpa [gt, List.getD_eq_getElem?_getD, List.getElem?_eq_getElem hj, List.getElem?_eq_getElem (show i < l.length by omega)] using this
theorem puTo_spec {l : List Int} {x : Int} (h : SU l) (k : Nat) (hk : k ≤ l.length) :
    SU (puTo l x k) ∧ ∀ y, y ∈ puTo l x k ↔ (∃ i, i < k ∧ y = gt l i) ∨ (puD l x k = true ∧ y = x) := by
  induction k with
  | zero => exact ⟨List.Pairwise.nil, fun y => by simp [puTo, puD]⟩
  | succ k ih =>
    obtain ⟨i1, i2⟩ := ih (by omega)
    have hold : ∀ i, i < k → gt l i < gt l k := fun i hi => su_gt h hi (by omega)
    rcases hd : puD l x k with _ | _
    · have hlow : ∀ i, i < k → gt l i < x := fun i hi => by
        rcases Int.lt_or_le (gt l i) x with h1 | h1
        · exact h1
        · have := (puD_iff (l := l) (x := x) k).2 ⟨i, hi, h1⟩
          rw [hd] at this; cases this
      have hmem : ∀ y, y ∈ puTo l x k ↔ ∃ i, i < k ∧ y = gt l i := fun y => by rw [i2 y, hd]; simp
      by_cases hx : x < gt l k
      · have e : puTo l x (k + 1) = (puTo l x k ++ [x]) ++ [gt l k] := by simp [puTo, hd, hx]
        have ed : puD l x (k + 1) = true := by simp [puD, show x ≤ gt l k by omega]
        rw [e, ed]
        refine ⟨List.pairwise_append.2 ⟨List.pairwise_append.2 ⟨i1, List.pairwise_singleton _ _, fun a ha b hb => ?_⟩, List.pairwise_singleton _ _, fun a ha b hb => ?_⟩, fun y => ?_⟩
        · rw [List.mem_singleton] at hb; subst hb
          obtain ⟨i, hi, rfl⟩ := (hmem a).1 ha
          exact hlow i hi
        · rw [List.mem_singleton] at hb; subst hb
          rcases List.mem_append.1 ha with h1 | h1
          · obtain ⟨i, hi, rfl⟩ := (hmem a).1 h1
            exact hold i hi
          · rw [List.mem_singleton] at h1; subst h1; exact hx
        · rw [List.mem_append, List.mem_append, List.mem_singleton, List.mem_singleton, hmem]
          constructor
          · rintro ((⟨i, hi, rfl⟩ | rfl) | rfl)
            · exact .inl ⟨i, by omega, rfl⟩
            · exact .inr ⟨rfl, rfl⟩
            · exact .inl ⟨k, by omega, rfl⟩
          · rintro (⟨i, hi, rfl⟩ | ⟨_, rfl⟩)
            · by_cases e : i = k
              · subst e; exact .inr rfl
              · exact .inl (.inl ⟨i, by omega, rfl⟩)
            · exact .inl (.inr rfl)
      · have e : puTo l x (k + 1) = puTo l x k ++ [gt l k] := by simp [puTo, hx]
        rw [e]
        refine ⟨List.pairwise_append.2 ⟨i1, List.pairwise_singleton _ _, fun a ha b hb => ?_⟩, fun y => ?_⟩
        · rw [List.mem_singleton] at hb; subst hb
          obtain ⟨i, hi, rfl⟩ := (hmem a).1 ha
          exact hold i hi
        · rw [List.mem_append, List.mem_singleton, hmem]
          have ed : puD l x (k + 1) = decide (x ≤ gt l k) := by simp [puD, hd]
          rw [ed]
          constructor
          · rintro (⟨i, hi, rfl⟩ | rfl)
            · exact .inl ⟨i, by omega, rfl⟩
            · exact .inl ⟨k, by omega, rfl⟩
          · rintro (⟨i, hi, rfl⟩ | ⟨h1, rfl⟩)
            · by_cases e : i = k
              · subst e; exact .inr rfl
              · exact .inl ⟨i, by omega, rfl⟩
            · have := of_decide_eq_true h1
              exact .inr (by omega)
    · have hmem : ∀ y, y ∈ puTo l x k ↔ (∃ i, i < k ∧ y = gt l i) ∨ y = x := fun y => by rw [i2 y, hd]; simp
      have e : puTo l x (k + 1) = puTo l x k ++ [gt l k] := by simp [puTo, hd]
      have ed : puD l x (k + 1) = true := by simp [puD, hd]
      obtain ⟨j, hj, hxj⟩ := (puD_iff (l := l) (x := x) k).1 hd
      rw [e, ed]
      refine ⟨List.pairwise_append.2 ⟨i1, List.pairwise_singleton _ _, fun a ha b hb => ?_⟩, fun y => ?_⟩
      · rw [List.mem_singleton] at hb; subst hb
        rcases (hmem a).1 ha with ⟨i, hi, rfl⟩ | rfl
        · exact hold i hi
        · have := hold j hj; omega
      · rw [List.mem_append, List.mem_singleton, hmem]
        constructor
        · rintro ((⟨i, hi, rfl⟩ | rfl) | rfl)
          · exact .inl ⟨i, by omega, rfl⟩
          · exact .inr ⟨rfl, rfl⟩
          · exact .inl ⟨k, by omega, rfl⟩
        · rintro (⟨i, hi, rfl⟩ | ⟨_, rfl⟩)
          · by_cases e : i = k
            · subst e; exact .inr rfl
            · exact .inl (.inl ⟨i, by omega, rfl⟩)
          · exact .inl (.inr rfl)
theorem mem_gt {l : List Int} {y : Int} : (∃ i, i < l.length ∧ y = gt l i) ↔ y ∈ l := by
  constructor
  · rintro ⟨i, hi, rfl⟩; exact gt_mem hi
  · intro h
    obtain ⟨i, hi, rfl⟩ := List.mem_iff_getElem.1 h
    exact ⟨i, hi, by simp [gt, List.getD_eq_getElem?_getD, List.getElem?_eq_getElem hi]⟩
theorem puL_spec {l : List Int} {x : Int} (h : SU l) : SU (puL l x) ∧ ∀ y, y ∈ puL l x ↔ y ∈ l ∨ y = x := by
  obtain ⟨h1, h2⟩ := puTo_spec (x := x) h l.length (Nat.le_refl _)
  unfold puL
  rcases hd : puD l x l.length with _ | _
  · rw [if_neg (by simp)]
    have hlow : ∀ a ∈ l, a < x := fun a ha => by
      obtain ⟨i, hi, rfl⟩ := mem_gt.2 ha
      rcases Int.lt_or_le (gt l i) x with h3 | h3
      · exact h3
      · have := (puD_iff (l := l) (x := x) l.length).2 ⟨i, hi, h3⟩
        rw [hd] at this; cases this
    have hmem : ∀ y, y ∈ puTo l x l.length ↔ y ∈ l := fun y => by rw [h2 y, hd, mem_gt]; simp
    refine ⟨List.pairwise_append.2 ⟨h1, List.pairwise_singleton _ _, fun a ha b hb => ?_⟩, fun y => ?_⟩
    · rw [List.mem_singleton] at hb; subst hb
      exact hlow a ((hmem a).1 ha)
    · rw [List.mem_append, List.mem_singleton, hmem]
  · rw [if_pos rfl]
    exact ⟨h1, fun y => by rw [h2 y, hd, mem_gt]; simp⟩
/-- all numbers of a list that lie within bounds put to their places, the first k -/
def pinTo (l xs : List Int) (lo hi : Int) : Nat → List Int
  | 0 => l
  | k + 1 => if inR (gt xs k) lo hi then puL (pinTo l xs lo hi k) (gt xs k) else pinTo l xs lo hi k
theorem pinTo_yes {l xs : List Int} {lo hi : Int} {k : Nat} (h : inR (gt xs k) lo hi = true) : pinTo l xs lo hi (k + 1) = puL (pinTo l xs lo hi k) (gt xs k) := by simp [pinTo, h]
theorem pinTo_no {l xs : List Int} {lo hi : Int} {k : Nat} (h : inR (gt xs k) lo hi = false) : pinTo l xs lo hi (k + 1) = pinTo l xs lo hi k := by simp [pinTo, h]
theorem pinTo_len (l xs : List Int) (lo hi : Int) (k : Nat) : (pinTo l xs lo hi k).length ≤ l.length + k := by
  induction k with
  | zero => exact Nat.le_refl _
  | succ k ih =>
    unfold pinTo
    split
    · have := puL_len (pinTo l xs lo hi k) (gt xs k); omega
    · omega
theorem pinTo_spec {l xs : List Int} {lo hi : Int} (h : SU l) (k : Nat) (hk : k ≤ xs.length) :
    SU (pinTo l xs lo hi k) ∧ ∀ y, y ∈ pinTo l xs lo hi k ↔ y ∈ l ∨ ∃ i, i < k ∧ y = gt xs i ∧ inR y lo hi = true := by
  induction k with
  | zero => exact ⟨h, fun y => by simp [pinTo]⟩
  | succ k ih =>
    obtain ⟨i1, i2⟩ := ih (by omega)
    rcases hq : inR (gt xs k) lo hi with _ | _
    · rw [pinTo_no hq]
      refine ⟨i1, fun y => ?_⟩
      rw [i2 y]
      constructor
      · rintro (h1 | ⟨i, h1, rfl, h2⟩)
        · exact .inl h1
        · exact .inr ⟨i, by omega, rfl, h2⟩
      · rintro (h1 | ⟨i, h1, rfl, h2⟩)
        · exact .inl h1
        · by_cases e : i = k
          · subst e; rw [hq] at h2; cases h2
          · exact .inr ⟨i, by omega, rfl, h2⟩
    · rw [pinTo_yes hq]
      obtain ⟨p1, p2⟩ := puL_spec (x := gt xs k) i1
      refine ⟨p1, fun y => ?_⟩
      rw [p2 y, i2 y]
      constructor
      · rintro ((h1 | ⟨i, h1, rfl, h2⟩) | rfl)
        · exact .inl h1
        · exact .inr ⟨i, by omega, rfl, h2⟩
        · exact .inr ⟨k, by omega, rfl, hq⟩
      · rintro (h1 | ⟨i, h1, rfl, h2⟩)
        · exact .inl (.inl h1)
        · by_cases e : i = k
          · subst e; exact .inr rfl
          · exact .inl (.inr ⟨i, by omega, rfl, h2⟩)
def joQ (ar bs : List Int) (lo hi : Int) (y : Int) : Bool := decide (y = lo) || (decide (y = hi) || (hasB ar y || hasB bs y))
theorem join_eq {ar bs : List Int} {lo hi : Int} (h : lo < hi) :
    pinTo (pinTo [lo, hi] ar lo hi ar.length) bs lo hi bs.length = flTo (joQ ar bs lo hi) lo (hi - lo + 1).toNat := by
  have h0 : SU [lo, hi] := List.pairwise_cons.2 ⟨fun x hx => by simp at hx; omega, List.pairwise_singleton _ _⟩
  obtain ⟨p1, p2⟩ := pinTo_spec (xs := ar) (lo := lo) (hi := hi) h0 ar.length (Nat.le_refl _)
  obtain ⟨q1, q2⟩ := pinTo_spec (xs := bs) (lo := lo) (hi := hi) p1 bs.length (Nat.le_refl _)
  refine su_eq q1 (flTo_su _ _ _) fun y => ?_
  have e : lo + ((hi - lo + 1).toNat : Int) = hi + 1 := by omega
  rw [q2 y, p2 y, flTo_mem, e]
  have g : ∀ xs : List Int, (∃ i, i < xs.length ∧ y = gt xs i ∧ inR y lo hi = true) ↔ y ∈ xs ∧ inR y lo hi = true := fun xs => by
    constructor
    · rintro ⟨i, h1, h2, h3⟩; exact ⟨mem_gt.1 ⟨i, h1, h2⟩, h3⟩
    · rintro ⟨h1, h2⟩
      obtain ⟨i, h3, h4⟩ := mem_gt.2 h1
      exact ⟨i, h3, h4, h2⟩
  rw [g, g]
  simp only [joQ, hasB, inR, Bool.and_eq_true, Bool.or_eq_true, decide_eq_true_eq, List.mem_cons, List.not_mem_nil, or_false]
  constructor
  · rintro ((h1 | h1) | h1)
    · rcases h1 with rfl | rfl
      · exact ⟨by omega, by omega, .inl rfl⟩
      · exact ⟨by omega, by omega, .inr (.inl rfl)⟩
    · exact ⟨by omega, by omega, .inr (.inr (.inl h1.1))⟩
    · exact ⟨by omega, by omega, .inr (.inr (.inr h1.1))⟩
  · rintro ⟨h1, h2, h3⟩
    rcases h3 with h3 | h3 | h3 | h3
    · exact .inl (.inl (.inl h3))
    · exact .inl (.inl (.inr h3))
    · exact .inl (.inr ⟨h3, by omega, by omega⟩)
    · exact .inr ⟨h3, by omega, by omega⟩
end Go.Proofs.Ytcgnnlgakfndaaa
