/-
  Plain words on sharing out: what each one gets, whose rests are greatest. No condition.
-/
import Derived.Test.YtddmgjcepkimbaaShr
import Derived.Test.YtddmgjcepkimbaaBasic
namespace Go.Proofs.Ytddmgjcepkimbaa
set_option linter.unusedVariables false
open Go.Sort
def quo (T s : Int) (ws : List Int) (k : Nat) : Int := (T * gt ws k) / s
def quL (T s : Int) (ws : List Int) (k : Nat) : List Int := (List.range k).map (quo T s ws)
def rsL (T s : Int) (ws : List Int) (k : Nat) : List Int := (List.range k).map (rst T s ws)
theorem quL_len (T s : Int) (ws : List Int) (k : Nat) : (quL T s ws k).length = k := by simp [quL]
theorem rsL_len (T s : Int) (ws : List Int) (k : Nat) : (rsL T s ws k).length = k := by simp [rsL]
theorem quL_next (T s : Int) (ws : List Int) (k : Nat) : quL T s ws (k + 1) = quL T s ws k ++ [quo T s ws k] := by simp [quL, List.range_succ]
theorem rsL_next (T s : Int) (ws : List Int) (k : Nat) : rsL T s ws (k + 1) = rsL T s ws k ++ [rst T s ws k] := by simp [rsL, List.range_succ]
theorem gt_mapR (f : Nat → Int) {n i : Nat} (h : i < n) : gt ((List.range n).map f) i = f i := by simp [gt, List.getD_eq_getElem?_getD, h]
/-- the sum of the first k whole shares, and of the first k rests -/
def sq (T s : Int) (ws : List Int) : Nat → Int
  | 0 => 0
  | k + 1 => sq T s ws k + quo T s ws k
def sr (T s : Int) (ws : List Int) : Nat → Int
  | 0 => 0
  | k + 1 => sr T s ws k + rst T s ws k
theorem sumTo_congr {xs ys : List Int} : ∀ k, (∀ i, i < k → gt xs i = gt ys i) → sumTo xs k = sumTo ys k
  | 0, _ => rfl
  | k + 1, h => by rw [sumTo, sumTo, sumTo_congr k (fun i hi => h i (by omega)), h k (by omega)]
theorem sum_quL (T s : Int) (ws : List Int) (n : Nat) : ∀ k, k ≤ n → sumTo (quL T s ws n) k = sq T s ws k
  | 0, _ => rfl
  | k + 1, h => by rw [sumTo, sq, sum_quL T s ws n k (by omega), quL, gt_mapR _ (by omega)]
theorem sum_parts {T s : Int} (ws : List Int) : ∀ k, T * sumTo ws k = s * sq T s ws k + sr T s ws k
  | 0 => by simp [sumTo, sq, sr]
  | k + 1 => by
    have h := sum_parts (T := T) (s := s) ws k
    have e := Int.mul_ediv_add_emod (T * gt ws k) s
    rw [sumTo, sq, sr, Int.mul_add, Int.mul_add, h, quo, rst]
    omega
theorem sr_bd {T s : Int} (hs : 1 ≤ s) (ws : List Int) : ∀ k, 0 ≤ sr T s ws k ∧ sr T s ws k ≤ (k : Int) * (s - 1)
  | 0 => by simp [sr]
  | k + 1 => by
    have h := sr_bd (T := T) hs ws k
    have h1 := Int.emod_nonneg (T * gt ws k) (show s ≠ 0 by omega)
    have h2 := Int.emod_lt_of_pos (T * gt ws k) (show 0 < s by omega)
    have e : ((k + 1 : Nat) : Int) * (s - 1) = (k : Int) * (s - 1) + (s - 1) := by
      rw [show ((k + 1 : Nat) : Int) = (k : Int) + 1 by omega, Int.add_mul, Int.one_mul]
    rw [sr, e, rst]
    omega
/-- how many get one more -/
def lft (T s : Int) (ws : List Int) : Int := T - sq T s ws ws.length
theorem lft_bd {T s : Int} {ws : List Int} (hs : 1 ≤ s) (hsum : sumTo ws ws.length = s) : 0 ≤ lft T s ws ∧ lft T s ws ≤ (ws.length : Int) := by
  have h := sum_parts (T := T) (s := s) ws ws.length
  have hb := sr_bd (T := T) hs ws ws.length
  rw [hsum] at h
  have e : s * lft T s ws = sr T s ws ws.length := by rw [lft, Int.mul_sub, Int.mul_comm s T]; omega
  have hn : (0 : Int) ≤ (ws.length : Int) := by omega
  constructor
  · rcases Int.lt_or_le (lft T s ws) 0 with h1 | h1
    · have : s * lft T s ws ≤ s * (-1) := Int.mul_le_mul_of_nonneg_left (by omega) (by omega)
      omega
    · exact h1
  · rcases Int.lt_or_le (ws.length : Int) (lft T s ws) with h1 | h1
    · have h2 : s * ((ws.length : Int) + 1) ≤ s * lft T s ws := Int.mul_le_mul_of_nonneg_left (by omega) (by omega)
      have h3 : (ws.length : Int) * (s - 1) = (ws.length : Int) * s - (ws.length : Int) := by rw [Int.mul_sub, Int.mul_one]
      have h4 : s * ((ws.length : Int) + 1) = (ws.length : Int) * s + s := by rw [Int.mul_add, Int.mul_one, Int.mul_comm]
      omega
    · exact h1
theorem quo_bd {T s : Int} {ws : List Int} {k : Nat} (hT : 0 ≤ T ∧ T ≤ 1000000000) (hs : 1 ≤ s) (hb : 0 ≤ gt ws k ∧ gt ws k ≤ s) : 0 ≤ quo T s ws k ∧ quo T s ws k ≤ 1000000000 := by
  have h0 : 0 ≤ T * gt ws k := Int.mul_nonneg hT.1 hb.1
  have h1 : T * gt ws k ≤ 1000000000 * s := Int.mul_le_mul hT.2 hb.2 hb.1 (by omega)
  refine ⟨Int.ediv_nonneg h0 (by omega), ?_⟩
  have := Int.ediv_le_ediv (show 0 < s by omega) h1
  rwa [Int.mul_ediv_cancel _ (by omega)] at this
/-- one more for the first k of P; the rests with the first k of P struck out -/
def shF (T s : Int) (ws : List Int) (P : Nat → Nat) : Nat → Nat → Int
  | 0, i => quo T s ws i
  | k + 1, i => if i = P k then shF T s ws P k i + 1 else shF T s ws P k i
def rsF (T s : Int) (ws : List Int) (P : Nat → Nat) : Nat → Nat → Int
  | 0, i => rst T s ws i
  | k + 1, i => if i = P k then -1 else rsF T s ws P k i
/-- the first greatest of m -/
def bst (r : Nat → Int) : Nat → Nat
  | 0 => 0
  | m + 1 => if r (bst r m) < r m then m else bst r m
theorem bst_spec (r : Nat → Int) : ∀ m, 0 < m → bst r m < m ∧ (∀ j, j < m → r j ≤ r (bst r m)) ∧ ∀ j, j < bst r m → r j < r (bst r m)
  | 1, _ => by
    have e : bst r 1 = 0 := by simp [bst]
    rw [e]
    refine ⟨by omega, fun j hj => ?_, fun j hj => by omega⟩
    obtain rfl : j = 0 := by omega
    omega
  | m + 2, _ => by
    obtain ⟨h1, h2, h3⟩ := bst_spec r (m + 1) (by omega)
    rw [bst]
    split
    next h =>
      refine ⟨by omega, fun j hj => ?_, fun j hj => ?_⟩
      · by_cases e : j = m + 1
        · subst e; omega
        · have := h2 j (by omega); omega
      · have := h2 j hj; omega
    next h =>
      refine ⟨by omega, fun j hj => ?_, h3⟩
      by_cases e : j = m + 1
      · subst e; omega
      · exact h2 j (by omega)
theorem bst_is {r : Nat → Int} {m b : Nat} (hb : b < m) (h1 : ∀ j, j < m → r j ≤ r b) (h2 : ∀ j, j < b → r j < r b) : bst r m = b := by
  obtain ⟨a1, a2, a3⟩ := bst_spec r m (by omega)
  rcases Nat.lt_trichotomy (bst r m) b with h | h | h
  · have := h2 _ h
    have := a2 b hb
    omega
  · exact h
  · have := a3 b h
    have := h1 _ a1
    omega
theorem bst_congr {r r' : Nat → Int} (h : ∀ i, r i = r' i) : ∀ m, bst r m = bst r' m
  | 0 => rfl
  | m + 1 => by rw [bst, bst, bst_congr h m, h, h]
/-- the reference's choices -/
def seR (T s : Int) (ws : List Int) : Nat → Nat → Int
  | 0 => rst T s ws
  | k + 1 => fun i => if i = bst (seR T s ws k) ws.length then -1 else seR T s ws k i
def seP (T s : Int) (ws : List Int) (k : Nat) : Nat := bst (seR T s ws k) ws.length
theorem seR_is (T s : Int) (ws : List Int) : ∀ k i, seR T s ws k i = rsF T s ws (seP T s ws) k i
  | 0, _ => rfl
  | k + 1, i => by
    show (if i = seP T s ws k then -1 else seR T s ws k i) = rsF T s ws (seP T s ws) (k + 1) i
    rw [rsF, seR_is T s ws k i]
theorem seP_is (T s : Int) (ws : List Int) (k : Nat) : seP T s ws k = bst (rsF T s ws (seP T s ws) k) ws.length := bst_congr (fun i => seR_is T s ws k i) _
/-- the shares -/
def shL (T s : Int) (ws : List Int) : List Int := (List.range ws.length).map (shF T s ws (seP T s ws) (lft T s ws).toNat)
theorem shL_len (T s : Int) (ws : List Int) : (shL T s ws).length = ws.length := by simp [shL]
theorem shF_congr {T s : Int} {ws : List Int} {P P' : Nat → Nat} : ∀ k, (∀ j, j < k → P j = P' j) → ∀ i, shF T s ws P k i = shF T s ws P' k i
  | 0, _, _ => rfl
  | k + 1, h, i => by rw [shF, shF, h k (by omega), shF_congr k (fun j hj => h j (by omega)) i]
theorem rsF_of {T s : Int} {ws : List Int} {P : Nat → Nat} : ∀ k i, ((∃ j, j < k ∧ P j = i) ∧ rsF T s ws P k i = -1) ∨ ((∀ j, j < k → P j ≠ i) ∧ rsF T s ws P k i = rst T s ws i)
  | 0, i => .inr ⟨fun j h => by omega, rfl⟩
  | k + 1, i => by
    rw [rsF]
    by_cases h : i = P k
    · rw [if_pos h]
      exact .inl ⟨⟨k, by omega, h.symm⟩, rfl⟩
    · rw [if_neg h]
      rcases rsF_of k i with ⟨⟨j, hj, e⟩, h1⟩ | ⟨h1, h2⟩
      · exact .inl ⟨⟨j, by omega, e⟩, h1⟩
      · refine .inr ⟨fun j hj e => ?_, h2⟩
        by_cases hjk : j = k
        · subst hjk; exact h e.symm
        · exact h1 j (by omega) e
/-- a row that holds each place once -/
theorem perm_range {n : Nat} {d : Array Nat} (h : PermIn 0 n (Array.range n) d) : (∀ k, k < n → d[k]! < n) ∧ (∀ j, j < n → ∃ k, k < n ∧ d[k]! = j) ∧ ∀ i k, i < k → k < n → d[i]! ≠ d[k]! := by
  have hs : d.size = n := by rw [h.1]; simp
  have hp : d.toList.Perm (List.range n) := by
    have := h.2.2
    rwa [← hs, Array.extract_size, hs, show (Array.range n).extract 0 n = Array.range n by rw [show n = (Array.range n).size by simp]; simp, Array.toList_range] at this
  have g : ∀ k (hk : k < n), d[k]! = d.toList[k]'(by simpa [hs] using hk) := fun k hk => by rw [getElem!_pos d k (by omega)]; simp
  refine ⟨fun k hk => ?_, fun j hj => ?_, fun i k hik hk => ?_⟩
  · rw [g k hk]
    exact List.mem_range.1 (hp.mem_iff.1 (List.getElem_mem _))
  · obtain ⟨k, hk, e⟩ := List.getElem_of_mem (hp.mem_iff.2 (List.mem_range.2 hj))
    have hk' : k < n := by simpa [hs] using hk
    exact ⟨k, hk', by rw [g k hk', e]⟩
  · rw [g i (by omega), g k hk]
    have hn : d.toList.Nodup := hp.nodup_iff.2 List.nodup_range
    exact fun e => by
      have := (List.getElem_inj hn).1 e
      omega
theorem sel_sorted {T s : Int} {ws : List Int} {d : Array Nat} (hs : 1 ≤ s) (hp : PermIn 0 ws.length (Array.range ws.length) d) (hd : SortedIn (ltL T s ws) 0 ws.length d) : ∀ k, k < ws.length → seP T s ws k = d[k]! := by
  obtain ⟨p1, p2, p3⟩ := perm_range hp
  intro k
  induction k using Nat.strongRecOn with
  | _ k ih =>
    intro hk
    have hR : ∀ i, rsF T s ws (seP T s ws) k i = rsF T s ws (fun j => d[j]!) k i := by
      have key : ∀ m, m ≤ k → ∀ i, rsF T s ws (seP T s ws) m i = rsF T s ws (fun j => d[j]!) m i := by
        intro m
        induction m with
        | zero => intro _ i; rfl
        | succ m ihm =>
          intro hm i
          rw [rsF, rsF, ih m (by omega) (by omega), ihm (by omega) i]
      exact key k (Nat.le_refl _)
    rw [seP_is, bst_congr hR]
    have pos : ∀ i, 0 ≤ rst T s ws i := fun i => Int.emod_nonneg _ (by omega)
    have self : rsF T s ws (fun j => d[j]!) k d[k]! = rst T s ws d[k]! := by
      rcases rsF_of (T := T) (s := s) (ws := ws) (P := fun j => d[j]!) k d[k]! with ⟨⟨j, hj, e⟩, _⟩ | ⟨_, h⟩
      · exact absurd e (p3 j k hj hk)
      · exact h
    have le : ∀ j, j < ws.length → rsF T s ws (fun j => d[j]!) k j ≤ rst T s ws d[k]! ∧ (j < d[k]! → rsF T s ws (fun j => d[j]!) k j < rst T s ws d[k]!) := by
      intro j hj
      rcases rsF_of (T := T) (s := s) (ws := ws) (P := fun j => d[j]!) k j with ⟨_, h⟩ | ⟨h1, h⟩
      · rw [h]
        have := pos d[k]!
        exact ⟨by omega, fun _ => by omega⟩
      · rw [h]
        obtain ⟨m, hm, e⟩ := p2 j hj
        subst e
        by_cases hmk : m = k
        · subst hmk; exact ⟨Int.le_refl _, fun h => by omega⟩
        · have hkm : k < m := by
            rcases Nat.lt_or_ge m k with h2 | h2
            · exact absurd rfl (h1 m h2)
            · omega
          have hL := hd k m (Nat.zero_le _) hkm hm
          unfold ltL at hL
          rw [Nat.mod_eq_of_lt (p1 k hk), Nat.mod_eq_of_lt (p1 m hm)] at hL
          simp only [decide_eq_false_iff_not] at hL
          exact ⟨by omega, fun h => by omega⟩
    exact bst_is (p1 k hk) (fun j hj => by rw [self]; exact (le j hj).1) (fun j hj => by rw [self]; exact (le j (by have := p1 k hk; omega)).2 hj)
theorem shL_sorted {T s : Int} {ws : List Int} {d : Array Nat} (hs : 1 ≤ s) (hsum : sumTo ws ws.length = s) (hp : PermIn 0 ws.length (Array.range ws.length) d) (hd : SortedIn (ltL T s ws) 0 ws.length d) {i : Nat} (hi : i < ws.length) : gt (shL T s ws) i = shF T s ws (fun j => d[j]!) (lft T s ws).toNat i := by
  rw [shL, gt_mapR _ hi]
  have hb := lft_bd (T := T) hs hsum
  exact shF_congr _ (fun j hj => sel_sorted hs hp hd j (by omega)) i
end Go.Proofs.Ytddmgjcepkimbaa
