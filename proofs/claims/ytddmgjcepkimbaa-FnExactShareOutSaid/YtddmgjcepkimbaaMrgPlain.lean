/-
  Plain words on merging two sorted parts of a row by turning and by halving, without any program text. No condition.
-/
import Derived.Sort.LotA
import Derived.Test.YtddmgjcepkimbaaWords
namespace Go.Proofs.Ytddmgjcepkimbaa
set_option linter.unusedVariables false
open Go.Sort
section
variable {α : Type} [Inhabited α] {L lt : α → α → Bool}
/-- the part [m, b) of d stands ahead of the part [a, m) in e -/
structure Rot (a m b : Nat) (d e : Array α) : Prop where
  perm : PermIn a b d e
  fst : ∀ k, a ≤ k → k < a + (b - m) → e[k]! = d[k + (m - a)]!
  snd : ∀ k, a + (b - m) ≤ k → k < b → e[k]! = d[k - (b - m)]!
/-- the program's order and the wanted one agree across the parts -/
def Cross (lt L : α → α → Bool) (a m b : Nat) (d : Array α) : Prop := ∀ i j, a ≤ i → i < m → m ≤ j → j < b → lt d[j]! d[i]! = L d[j]! d[i]!
theorem Rot.at {a m b : Nat} {d e : Array α} (h : Rot a m b d e) (ham : a ≤ m) (hmb : m ≤ b) (k : Nat) :
    ((k < a ∨ b ≤ k) ∧ e[k]! = d[k]!) ∨ (a ≤ k ∧ k < a + (b - m) ∧ e[k]! = d[k + (m - a)]!) ∨ (a + (b - m) ≤ k ∧ k < b ∧ e[k]! = d[k - (b - m)]!) := by
  by_cases h1 : k < a ∨ b ≤ k
  · exact .inl ⟨h1, h.perm.2.1 k h1⟩
  · by_cases h2 : k < a + (b - m)
    · exact .inr (.inl ⟨by omega, h2, h.fst k (by omega) h2⟩)
    · exact .inr (.inr ⟨by omega, by omega, h.snd k (by omega) (by omega)⟩)
theorem Rot.none_l {m b : Nat} (d : Array α) : Rot m m b d d :=
  ⟨permIn_refl d m b, fun k _ _ => by rw [Nat.sub_self, Nat.add_zero], fun k h1 h2 => by omega⟩
theorem Rot.none_r {a m : Nat} (d : Array α) : Rot a m m d d :=
  ⟨permIn_refl d a m, fun k h1 h2 => by omega, fun k h1 h2 => by rw [Nat.sub_self, Nat.sub_zero]⟩
/-- four parts: the first, the left one's end, the right one's beginning, the last: after the turn the middle ones have changed places -/
theorem merge_all {a s m t b : Nat} {d e : Array α} (has : a ≤ s) (hsm : s ≤ m) (hmt : m ≤ t) (htb : t ≤ b) (h1 : SortedIn L a m d) (h2 : SortedIn L m b d) (he : Rot s m t d e)
    (hLL : ∀ i j, a ≤ i → i < s → m ≤ j → j < t → L d[j]! d[i]! = false) (hL : ∀ i j, a ≤ i → i < s → t ≤ j → j < b → L d[j]! d[i]! = false)
    (hR : ∀ i j, s ≤ i → i < m → m ≤ j → j < t → L d[i]! d[j]! = false) (hHH : ∀ i j, s ≤ i → i < m → t ≤ j → j < b → L d[j]! d[i]! = false) : SortedIn L a b e := by
  intro i j hai hij hjb
  rcases he.at hsm hmt i with ⟨hi, ei⟩ | ⟨hi, hi2, ei⟩ | ⟨hi, hi2, ei⟩ <;> rcases he.at hsm hmt j with ⟨hj, ej⟩ | ⟨hj, hj2, ej⟩ | ⟨hj, hj2, ej⟩ <;> rw [ei, ej]
  · rcases hi with hi | hi
    · by_cases hjs : j < s
      · exact h1 i j hai hij (by omega)
      · exact hL i j hai hi (by omega) hjb
    · exact h2 i j (by omega) hij hjb
  · exact hLL i (j + (m - s)) hai (by omega) (by omega) (by omega)
  · exact h1 i (j - (t - m)) hai (by omega) (by omega)
  · exact h2 (i + (m - s)) j (by omega) (by omega) hjb
  · exact h2 (i + (m - s)) (j + (m - s)) (by omega) (by omega) (by omega)
  · exact hR (j - (t - m)) (i + (m - s)) (by omega) (by omega) (by omega) (by omega)
  · exact hHH (i - (t - m)) j (by omega) (by omega) (by omega) hjb
  · omega
  · exact h1 (i - (t - m)) (j - (t - m)) (by omega) (by omega) (by omega)
/-- what the turn leaves for the two calls behind it -/
structure Cut (lt L : α → α → Bool) (a s mid t b : Nat) (e : Array α) : Prop where
  s1 : SortedIn L a s e
  s2 : SortedIn L s mid e
  s3 : SortedIn L mid t e
  s4 : SortedIn L t b e
  c1 : Cross lt L a s mid e
  c2 : Cross lt L mid t b e
  le : ∀ i j, a ≤ i → i < mid → mid ≤ j → j < b → L e[j]! e[i]! = false
theorem cut_rot {a s m mid t b : Nat} {d e : Array α} (ht : t + s = mid + m) (has : a ≤ s) (hsm : s ≤ m) (hsd : s ≤ mid) (hmt : m ≤ t) (htb : t ≤ b) (h1 : SortedIn L a m d) (h2 : SortedIn L m b d) (hC : Cross lt L a m b d) (he : Rot s m t d e)
    (hL : ∀ i j, a ≤ i → i < s → t ≤ j → j < b → L d[j]! d[i]! = false) (hR : ∀ i j, s ≤ i → i < m → m ≤ j → j < t → L d[i]! d[j]! = false) : Cut lt L a s mid t b e := by
  have E := he.at hsm hmt
  refine ⟨fun i j hi hij hj => ?_, fun i j hi hij hj => ?_, fun i j hi hij hj => ?_, fun i j hi hij hj => ?_, fun i j hi hi2 hj hj2 => ?_, fun i j hi hi2 hj hj2 => ?_, fun i j hi hi2 hj hj2 => ?_⟩ <;>
    rcases E i with ⟨xi, ei⟩ | ⟨xi, yi, ei⟩ | ⟨xi, yi, ei⟩ <;> rcases E j with ⟨xj, ej⟩ | ⟨xj, yj, ej⟩ | ⟨xj, yj, ej⟩ <;> rw [ei, ej] <;>
    first
      | (exfalso; omega)
      | exact h1 _ _ (by omega) (by omega) (by omega)
      | exact h2 _ _ (by omega) (by omega) (by omega)
      | exact hL _ _ (by omega) (by omega) (by omega) (by omega)
      | exact hR _ _ (by omega) (by omega) (by omega) (by omega)
      | exact hC _ _ (by omega) (by omega) (by omega) (by omega)
theorem sorted_keep {a b lo hi : Nat} {d e : Array α} (h : SortedIn L a b d) (hp : PermIn lo hi d e) (hd : b ≤ lo ∨ hi ≤ a) : SortedIn L a b e := fun i j hi hij hj => by
  rw [hp.2.1 i (by omega), hp.2.1 j (by omega)]
  exact h i j hi hij hj
theorem cross_keep {a m b lo hi : Nat} {d e : Array α} (h : Cross lt L a m b d) (hp : PermIn lo hi d e) (hd : b ≤ lo ∨ hi ≤ a) : Cross lt L a m b e := fun i j hi hi2 hj hj2 => by
  rw [hp.2.1 i (by omega), hp.2.1 j (by omega)]
  exact h i j hi hi2 hj hj2
/-- what is so across two neighbouring parts stays so when each of them is turned within itself -/
theorem le_keep {a mid b : Nat} {d e : Array α} {p : α → α → Prop} (h : ∀ i j, a ≤ i → i < mid → mid ≤ j → j < b → p d[i]! d[j]!) (hmb : mid ≤ b) (hb : b ≤ d.size) (hp : PermIn a mid d e ∨ PermIn mid b d e) : ∀ i j, a ≤ i → i < mid → mid ≤ j → j < b → p e[i]! e[j]! := by
  intro i j hi hi2 hj hj2
  rcases hp with hp | hp
  · rw [hp.2.1 j (by omega)]
    exact permIn_all d e a mid (fun x => p x d[j]!) (by omega) hp (fun k h1 h2 => h k j h1 h2 hj hj2) i hi hi2
  · rw [hp.2.1 i (by omega)]
    exact permIn_all d e mid b (fun x => p d[i]! x) hb hp (fun k h1 h2 => h i k hi hi2 h1 h2) j hj hj2
theorem sorted_join {a mid b : Nat} {e : Array α} (h1 : SortedIn L a mid e) (h2 : SortedIn L mid b e) (hle : ∀ i j, a ≤ i → i < mid → mid ≤ j → j < b → L e[j]! e[i]! = false) : SortedIn L a b e := by
  intro i j hi hij hj
  by_cases h3 : j < mid
  · exact h1 i j hi hij h3
  · by_cases h4 : i < mid
    · exact hle i j hi h4 (by omega) hj
    · exact h2 i j (by omega) hij hj
/-- halving: what is true below s, false from r on -/
structure Srch (T : Nat → Bool) (s0 r0 s r : Nat) : Prop where
  a : s0 ≤ s
  b : s ≤ r
  c : r ≤ r0
  lo : ∀ k, s0 ≤ k → k < s → T k = true
  hi : ∀ k, r ≤ k → k < r0 → T k = false
def Mono (T : Nat → Bool) (s0 r0 : Nat) : Prop := ∀ k k', s0 ≤ k' → k' ≤ k → k < r0 → T k = true → T k' = true
theorem Srch.start {T : Nat → Bool} {s0 r0 : Nat} (h : s0 ≤ r0) : Srch T s0 r0 s0 r0 := ⟨Nat.le_refl _, h, Nat.le_refl _, fun k _ _ => by omega, fun k _ _ => by omega⟩
theorem Srch.up {T : Nat → Bool} {s0 r0 s r c : Nat} (h : Srch T s0 r0 s r) (hm : Mono T s0 r0) (h1 : s ≤ c) (h2 : c < r) (ht : T c = true) : Srch T s0 r0 (c + 1) r :=
  ⟨by have := h.a; omega, by omega, h.c, fun k hk hk2 => hm c k hk (by omega) (by have := h.c; omega) ht, h.hi⟩
theorem Srch.down {T : Nat → Bool} {s0 r0 s r c : Nat} (h : Srch T s0 r0 s r) (hm : Mono T s0 r0) (h1 : s ≤ c) (h2 : c < r) (ht : T c = false) : Srch T s0 r0 s c :=
  ⟨h.a, h1, by have := h.c; omega, h.lo, fun k hk hk2 => by
    cases hx : T k with
    | false => rfl
    | true =>
      have := hm k c (by have := h.a; omega) hk hk2 hx
      rw [ht] at this
      cases this⟩
/-- one on the left -/
def T1 (lt : α → α → Bool) (d : Array α) (a : Nat) (k : Nat) : Bool := lt d[k]! d[a]!
theorem mono1 {a b : Nat} {d : Array α} (hS : SWO L) (h2 : SortedIn L (a + 1) b d) (hC : Cross lt L a (a + 1) b d) : Mono (T1 lt d a) (a + 1) b := by
  intro k k' h0 h1 h3 ht
  unfold T1 at *
  rw [hC a k (Nat.le_refl _) (by omega) (by omega) h3] at ht
  rw [hC a k' (Nat.le_refl _) (by omega) (by omega) (by omega)]
  cases hx : L d[k']! d[a]! with
  | true => rfl
  | false =>
    by_cases e : k' = k
    · subst e; rw [hx] at ht; exact ht
    · have := hS.ntrans _ _ _ (h2 k' k h0 (by omega) h3) hx
      rw [this] at ht
      cases ht
theorem end1 {a b i : Nat} {d e : Array α} (hS : SWO L) (hab : a + 1 < b) (h1 : SortedIn L a (a + 1) d) (h2 : SortedIn L (a + 1) b d) (hC : Cross lt L a (a + 1) b d) (hT : Srch (T1 lt d a) (a + 1) b i i) (he : Rot a (a + 1) i d e) : SortedIn L a b e := by
  refine merge_all (Nat.le_refl _) (by omega) hT.a hT.c h1 h2 he (fun i j h3 h4 => by omega) (fun i j h3 h4 => by omega) (fun p q h3 h4 h5 h6 => ?_) (fun p q h3 h4 h5 h6 => ?_)
  · obtain rfl : p = a := by omega
    have := hT.lo q h5 h6
    unfold T1 at this
    rw [hC p q h3 h4 h5 (by have := hT.c; omega)] at this
    exact hS.asymmA this
  · obtain rfl : p = a := by omega
    have := hT.hi q h5 h6
    unfold T1 at this
    rwa [hC p q h3 h4 (by have := hT.a; omega) h6] at this
/-- one on the right -/
def T2 (lt : α → α → Bool) (d : Array α) (m : Nat) (k : Nat) : Bool := !lt d[m]! d[k]!
theorem mono2 {a m : Nat} {d : Array α} (hS : SWO L) (h1 : SortedIn L a m d) (hC : Cross lt L a m (m + 1) d) : Mono (T2 lt d m) a m := by
  intro k k' h0 h2 h3 ht
  unfold T2 at *
  rw [hC k m (by omega) h3 (Nat.le_refl _) (by omega)] at ht
  rw [hC k' m h0 (by omega) (Nat.le_refl _) (by omega)]
  simp only [Bool.not_eq_true'] at ht ⊢
  by_cases e : k' = k
  · subst e; exact ht
  · exact hS.ntrans _ _ _ ht (h1 k' k h0 (by omega) h3)
theorem end2 {a m i : Nat} {d e : Array α} (hS : SWO L) (_ham : a < m) (h1 : SortedIn L a m d) (h2 : SortedIn L m (m + 1) d) (hC : Cross lt L a m (m + 1) d) (hT : Srch (T2 lt d m) a m i i) (he : Rot i m (m + 1) d e) : SortedIn L a (m + 1) e := by
  refine merge_all hT.a hT.c (by omega) (Nat.le_refl _) h1 h2 he (fun p q h3 h4 h5 h6 => ?_) (fun i j h3 h4 => by omega) (fun p q h3 h4 h5 h6 => ?_) (fun i j h3 h4 => by omega)
  · obtain rfl : q = m := by omega
    have := hT.lo p h3 h4
    unfold T2 at this
    rw [hC p q h3 (by have := hT.c; omega) h5 h6] at this
    simpa using this
  · obtain rfl : q = m := by omega
    have := hT.hi p h3 h4
    unfold T2 at this
    rw [hC p q (by have := hT.a; omega) h4 h5 h6] at this
    exact hS.asymmA (by simpa using this)
/-- the middle -/
def T3 (lt : α → α → Bool) (d : Array α) (p : Nat) (k : Nat) : Bool := !lt d[p - k]! d[k]!
theorem mono3 {a m b p s0 r0 : Nat} {d : Array α} (hS : SWO L) (h1 : SortedIn L a m d) (h2 : SortedIn L m b d) (hC : Cross lt L a m b d) (hb : ∀ k, s0 ≤ k → k < r0 → a ≤ k ∧ k < m ∧ m ≤ p - k ∧ p - k < b ∧ k ≤ p) : Mono (T3 lt d p) s0 r0 := by
  intro k k' h0 h3 h4 ht
  unfold T3 at *
  have q1 := hb k (by omega) h4
  have q2 := hb k' h0 (by omega)
  rw [hC k (p - k) q1.1 q1.2.1 q1.2.2.1 q1.2.2.2.1] at ht
  rw [hC k' (p - k') q2.1 q2.2.1 q2.2.2.1 q2.2.2.2.1]
  simp only [Bool.not_eq_true'] at ht ⊢
  by_cases e : k' = k
  · subst e; exact ht
  · exact hS.ntrans _ _ _ (h2 (p - k) (p - k') q1.2.2.1 (by omega) q2.2.2.2.1) (hS.ntrans _ _ _ ht (h1 k' k q2.1 (by omega) q1.2.1))
/-- the bounds of the search in the middle -/
structure Bnd (a m b mid s0 r0 : Nat) : Prop where
  x : (m > mid ∧ s0 + b = mid + m ∧ r0 = mid) ∨ (m ≤ mid ∧ s0 = a ∧ r0 = m)
  h1 : 2 * mid ≤ a + b
  h2 : a + b ≤ 2 * mid + 1
  am : a < m
  mb : m < b
theorem Bnd.in {a m b mid s0 r0 : Nat} (h : Bnd a m b mid s0 r0) : a ≤ s0 ∧ s0 ≤ r0 ∧ r0 ≤ m ∧ r0 ≤ mid ∧ ∀ k, s0 ≤ k → k < r0 → a ≤ k ∧ k < m ∧ m ≤ mid + m - 1 - k ∧ mid + m - 1 - k < b ∧ k ≤ mid + m - 1 := by
  have h1 := h.h1
  have h2 := h.h2
  have h3 := h.am
  have h4 := h.mb
  rcases h.x with ⟨x1, x2, x3⟩ | ⟨x1, x2, x3⟩
  · refine ⟨by omega, by omega, by omega, by omega, fun k hk hk2 => ⟨by omega, by omega, by omega, by omega, by omega⟩⟩
  · refine ⟨by omega, by omega, by omega, by omega, fun k hk hk2 => ⟨by omega, by omega, by omega, by omega, by omega⟩⟩
theorem end3 {a m b mid s0 r0 s : Nat} {d : Array α} (hS : SWO L) (hB : Bnd a m b mid s0 r0) (h1 : SortedIn L a m d) (h2 : SortedIn L m b d) (hC : Cross lt L a m b d) (hT : Srch (T3 lt d (mid + m - 1)) s0 r0 s s) :
    (∀ i j, a ≤ i → i < s → mid + m - s ≤ j → j < b → L d[j]! d[i]! = false) ∧ (∀ i j, s ≤ i → i < m → m ≤ j → j < mid + m - s → L d[i]! d[j]! = false) := by
  have hI := hB.in
  have e1 := hB.h1
  have e2 := hB.h2
  have e3 := hB.am
  have e4 := hB.mb
  have ta := hT.a
  have tc := hT.c
  constructor
  · intro i j h3 h4 h5 h6
    by_cases hs : s0 < s
    · have ht := hT.lo (s - 1) (by omega) (by omega)
      have q := hI.2.2.2.2 (s - 1) (by omega) (by omega)
      unfold T3 at ht
      rw [hC (s - 1) (mid + m - 1 - (s - 1)) q.1 q.2.1 q.2.2.1 q.2.2.2.1] at ht
      simp only [Bool.not_eq_true'] at ht
      have x1 : L d[j]! d[mid + m - 1 - (s - 1)]! = false := by
        by_cases e : mid + m - 1 - (s - 1) = j
        · subst e; exact hS.irrefl _
        · exact h2 _ j q.2.2.1 (by omega) h6
      have x2 : L d[s - 1]! d[i]! = false := by
        by_cases e : i = s - 1
        · subst e; exact hS.irrefl _
        · exact h1 i _ h3 (by omega) q.2.1
      exact hS.ntrans _ _ _ x1 (hS.ntrans _ _ _ ht x2)
    · rcases hB.x with ⟨x1, x2, x3⟩ | ⟨x1, x2, x3⟩ <;> omega
  · intro i j h3 h4 h5 h6
    by_cases hs : s < r0
    · have ht := hT.hi s (Nat.le_refl _) hs
      have q := hI.2.2.2.2 s (by omega) hs
      unfold T3 at ht
      rw [hC s (mid + m - 1 - s) q.1 q.2.1 q.2.2.1 q.2.2.2.1] at ht
      have ht : L d[mid + m - 1 - s]! d[s]! = true := by simpa using ht
      have ht := hS.asymmA ht
      have x1 : L d[i]! d[s]! = false := by
        by_cases e : s = i
        · subst e; exact hS.irrefl _
        · exact h1 s i (by omega) (by omega) h4
      have x2 : L d[mid + m - 1 - s]! d[j]! = false := by
        by_cases e : j = mid + m - 1 - s
        · subst e; exact hS.irrefl _
        · exact h2 j _ h5 (by omega) q.2.2.2.1
      exact hS.ntrans _ _ _ x1 (hS.ntrans _ _ _ ht x2)
    · rcases hB.x with ⟨x1, x2, x3⟩ | ⟨x1, x2, x3⟩ <;> omega
/-! insertion where the two orders agree on a later one against an earlier one -/
theorem insInner_perm (a : Nat) : ∀ (j : Nat) (d : Array α), j < d.size → PermIn a (j + 1) d (insInner lt a j d)
  | 0, d, _ => permIn_refl d _ _
  | j + 1, d, h => by
    rw [insInner]
    split
    next hc =>
      simp only [Bool.and_eq_true, decide_eq_true_eq] at hc
      have h1 := swp_permIn d a (j + 2) (j + 1) j (by omega) (by omega) (by omega) (by omega) (by omega)
      have h2 := insInner_perm a j (swp d (j + 1) j) (by rw [swp_size]; omega)
      exact permIn_trans _ _ _ _ _ h1 (permIn_mono _ _ a (j + 1) a (j + 2) (Nat.le_refl _) (by omega) (by rw [swp_size]; omega) h2)
    · exact permIn_refl d _ _
theorem insInner_same (a : Nat) : ∀ (j : Nat) (d : Array α), j < d.size → (∀ k, a ≤ k → k < j → lt d[j]! d[k]! = L d[j]! d[k]!) → insInner lt a j d = insInner L a j d
  | 0, d, _, _ => rfl
  | j + 1, d, h, hs => by
    rw [insInner, insInner]
    by_cases hj : j + 1 > a
    · rw [hs j (by omega) (by omega)]
      split
      · refine insInner_same a j _ (by rw [swp_size]; omega) fun k hk hk2 => ?_
        rw [swp_right d (j + 1) j (by omega), swp_other d (j + 1) j k (by omega) (by omega)]
        exact hs k hk (by omega)
      · rfl
    · have : decide (j + 1 > a) = false := by simpa using hj
      rw [this]
      rfl
theorem insOuter_same (a b : Nat) : ∀ (n i : Nat) (d : Array α), b - i = n → a ≤ i → b ≤ d.size → (∀ p q, a ≤ p → p < q → i ≤ q → q < b → lt d[q]! d[p]! = L d[q]! d[p]!) → insOuter lt a b i d = insOuter L a b i d
  | 0, i, d, hn, _, _, _ => by rw [insOuter, if_neg (by omega), insOuter.eq_def L, if_neg (by omega)]
  | n + 1, i, d, hn, hi, hb, hs => by
    rw [insOuter, if_pos (by omega), insOuter.eq_def L, if_pos (by omega), insInner_same a i d (by omega) (fun k hk hk2 => hs k i hk hk2 (Nat.le_refl _) (by omega))]
    have hp := insInner_perm (lt := L) a i d (by omega)
    refine insOuter_same a b n (i + 1) _ (by omega) (by omega) (by rw [hp.1]; exact hb) fun p q h1 h2 h3 h4 => ?_
    rw [hp.2.1 q (by omega)]
    by_cases hpi : p < i + 1
    · exact permIn_all d _ a (i + 1) (fun x => lt d[q]! x = L d[q]! x) (by omega) hp (fun k h5 h6 => hs k q h5 (by omega) (by omega) h4) p h1 hpi
    · rw [hp.2.1 p (by omega)]
      exact hs p q h1 h2 (by omega) h4
theorem ins_same {a b : Nat} {d : Array α} (hb : b ≤ d.size) (hs : ∀ p q, a ≤ p → p < q → q < b → lt d[q]! d[p]! = L d[q]! d[p]!) : insertionSort lt d a b = insertionSort L d a b :=
  insOuter_same a b _ (a + 1) d rfl (by omega) hb fun p q h1 h2 h3 h4 => hs p q h1 h2 h4
theorem ins_sorted {a b : Nat} {d : Array α} (hS : SWO L) (hab : a ≤ b) (hb : b ≤ d.size) (hs : ∀ p q, a ≤ p → p < q → q < b → lt d[q]! d[p]! = L d[q]! d[p]!) : PermIn a b d (insertionSort lt d a b) ∧ SortedIn L a b (insertionSort lt d a b) := by
  rw [ins_same hb hs]
  exact insertionSort_holds hS d a b hab hb
end
end Go.Proofs.Ytddmgjcepkimbaa
