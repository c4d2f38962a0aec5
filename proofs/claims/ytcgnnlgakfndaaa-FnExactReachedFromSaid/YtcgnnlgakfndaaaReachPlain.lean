/-
  Plain words on what can be reached along ditches: the least set, a list that grows, marks that grow. No condition.
-/
import Derived.Test.YtcgnnlgakfndaaaLeadPlain
namespace Go.Proofs.Ytcgnnlgakfndaaa
set_option linter.unusedVariables false
/-- reached from a junction along ditches that can take some flow -/
inductive Rch (n : Nat) (fl : List Int) (s : Int) : Int → Prop
  | base : Rch n fl s s
  | step {k : Nat} (h : Rch n fl s (dF fl k)) (hk : k < n) (hw : 0 < dW fl k) : Rch n fl s (dT fl k)
noncomputable def rchB (n : Nat) (fl : List Int) (s : Int) (j : Nat) : Bool := @decide (Rch n fl s (j : Int)) (Classical.propDecidable _)
theorem rchB_iff {n : Nat} {fl : List Int} {s : Int} {j : Nat} : rchB n fl s j = true ↔ Rch n fl s (j : Int) := by
  unfold rchB
  exact @decide_eq_true_iff _ (Classical.propDecidable _)
theorem bool_same {a b : Bool} (h : a = true ↔ b = true) : a = b := by cases a <;> cases b <;> simp_all
noncomputable def reC (J : Int) (n : Nat) (fl : List Int) (s : Int) : Int := if netOk J n fl then (if inR s 1 (J - 1) then 0 else 2) else 1
noncomputable def reL (J : Int) (n : Nat) (fl : List Int) (s : Int) : List Int := if netOk J n fl && inR s 1 (J - 1) then idxTo (rchB n fl s) J.toNat else []
theorem re_1 {J : Int} {n : Nat} {fl : List Int} {s : Int} (h : netOk J n fl = false) : reL J n fl s = [] ∧ reC J n fl s = 1 := by simp [reL, reC, h]
theorem re_2 {J : Int} {n : Nat} {fl : List Int} {s : Int} (h : netOk J n fl = true) (h2 : inR s 1 (J - 1) = false) : reL J n fl s = [] ∧ reC J n fl s = 2 := by simp [reL, reC, h, h2]
theorem re_3 {J : Int} {n : Nat} {fl : List Int} {s : Int} (h : netOk J n fl = true) (h2 : inR s 1 (J - 1) = true) : reL J n fl s = idxTo (rchB n fl s) J.toNat ∧ reC J n fl s = 0 := by simp [reL, reC, h, h2]
theorem reL_len (J : Int) (n : Nat) (fl : List Int) (s : Int) : (reL J n fl s).length ≤ 10 := by
  unfold reL
  split
  next h =>
    simp only [Bool.and_eq_true] at h
    have h1 := netOk_of h.1
    have h2 := idxTo_len (rchB n fl s) J.toNat
    omega
  next => simp
/-- different numbers below N: at most N -/
theorem nodup_le (N : Nat) : ∀ l : List Int, l.Nodup → (∀ x ∈ l, 0 ≤ x ∧ x < (N : Int)) → l.length ≤ N := by
  induction N with
  | zero =>
    intro l _ h
    cases l with
    | nil => exact Nat.le_refl _
    | cons x l => have := h x (by simp); omega
  | succ N ih =>
    intro l hn h
    have h1 := ih (l.filter fun x => decide (x ≠ (N : Int))) (hn.filter _) (fun x hx => by
      rw [List.mem_filter] at hx
      have h2 := h x hx.1
      have h3 : x ≠ (N : Int) := by simpa using hx.2
      omega)
    have h2 : l.length ≤ (l.filter fun x => decide (x ≠ (N : Int))).length + 1 := by
      clear h1 h ih
      induction l with
      | nil => simp
      | cons x l ihl =>
        obtain ⟨hx, hl⟩ := List.nodup_cons.1 hn
        by_cases e : x = (N : Int)
        · have : l.filter (fun x => decide (x ≠ (N : Int))) = l := List.filter_eq_self.2 fun y hy => by
            have : y ≠ (N : Int) := fun e' => hx (by rw [e, ← e']; exact hy)
            simpa using this
          rw [List.filter_cons_of_neg (by simpa using e), this]
          simp
        · rw [List.filter_cons_of_pos (by simpa using e)]
          have := ihl hl
          rw [List.length_cons, List.length_cons]
          omega
    omega
/-- the list that grows: the first i of it are done, and of number i the first k ditches -/
structure Bfs (J : Int) (n : Nat) (fl : List Int) (s : Int) (L : List Int) (i k : Nat) : Prop where
  has : s ∈ L
  sub : ∀ x ∈ L, Rch n fl s x
  nd : L.Nodup
  bd : ∀ x ∈ L, 0 ≤ x ∧ x ≤ J - 1
  done : ∀ a, a < i → ∀ q, q < n → 0 < dW fl q → dF fl q = gt L a → dT fl q ∈ L
  cur : ∀ q, q < k → 0 < dW fl q → dF fl q = gt L i → dT fl q ∈ L
  il : i ≤ L.length
theorem Bfs.start {J : Int} {n : Nat} {fl : List Int} {s : Int} (hs : 0 ≤ s ∧ s ≤ J - 1) : Bfs J n fl s [s] 0 0 :=
  ⟨by simp, fun x hx => by simp at hx; subst hx; exact .base, by simp, fun x hx => by simp at hx; subst hx; exact hs, fun a ha => absurd ha (by omega), fun q hq => absurd hq (by omega), by simp⟩
theorem Bfs.len {J : Int} {n : Nat} {fl : List Int} {s : Int} {L : List Int} {i k : Nat} (h : Bfs J n fl s L i k) (hJ : J ≤ 10) : L.length ≤ 10 :=
  nodup_le 10 L h.nd fun x hx => by have := h.bd x hx; omega
theorem Bfs.skip {J : Int} {n : Nat} {fl : List Int} {s : Int} {L : List Int} {i k : Nat} (h : Bfs J n fl s L i k) (hk : 0 < dW fl k → dF fl k = gt L i → dT fl k ∈ L) : Bfs J n fl s L i (k + 1) :=
  ⟨h.has, h.sub, h.nd, h.bd, h.done, fun q hq hw hf => by
    by_cases e : q = k
    · subst e; exact hk hw hf
    · exact h.cur q (by omega) hw hf, h.il⟩
theorem Bfs.add {J : Int} {n : Nat} {fl : List Int} {s : Int} {L : List Int} {i k : Nat} (h : Bfs J n fl s L i k) (hi : i < L.length) (hk : k < n) (hw : 0 < dW fl k) (hf : dF fl k = gt L i) (hb : 0 ≤ dT fl k ∧ dT fl k ≤ J - 1) (hn : dT fl k ∉ L) : Bfs J n fl s (L ++ [dT fl k]) i (k + 1) := by
  have hm : gt L i ∈ L := by simp [gt, List.getD_eq_getElem?_getD, List.getElem?_eq_getElem hi]
  refine ⟨by simp [h.has], fun x hx => ?_, ?_, fun x hx => ?_, fun a ha q hq hw' hf' => ?_, fun q hq hw' hf' => ?_, by rw [List.length_append]; omega⟩
  · rcases List.mem_append.1 hx with h1 | h1
    · exact h.sub x h1
    · rw [List.mem_singleton] at h1
      subst h1
      exact .step (by rw [hf]; exact h.sub _ hm) hk hw
  · exact List.nodup_append.2 ⟨h.nd, by simp, fun a ha b hb e => by rw [List.mem_singleton] at hb; subst hb; subst e; exact hn ha⟩
  · rcases List.mem_append.1 hx with h1 | h1
    · exact h.bd x h1
    · rw [List.mem_singleton] at h1; subst h1; exact hb
  · rw [gt_snoc_lt _ _ _ (by omega)] at hf'
    exact List.mem_append_left _ (h.done a ha q hq hw' hf')
  · rw [gt_snoc_lt _ _ _ hi] at hf'
    by_cases e : q = k
    · subst e; simp
    · exact List.mem_append_left _ (h.cur q (by omega) hw' hf')
theorem Bfs.next {J : Int} {n : Nat} {fl : List Int} {s : Int} {L : List Int} {i : Nat} (h : Bfs J n fl s L i n) (hi : i < L.length) : Bfs J n fl s L (i + 1) 0 :=
  ⟨h.has, h.sub, h.nd, h.bd, fun a ha q hq hw hf => by
    by_cases e : a = i
    · subst e; exact h.cur q hq hw hf
    · exact h.done a (by omega) q hq hw hf, fun q hq => absurd hq (by omega), hi⟩
theorem Bfs.fin {J : Int} {n : Nat} {fl : List Int} {s : Int} {L : List Int} (h : Bfs J n fl s L L.length 0) : (fun j : Nat => hasB L (j : Int)) = rchB n fl s := by
  have key : ∀ x, Rch n fl s x → x ∈ L := fun x hx => by
    induction hx with
    | base => exact h.has
    | step hx hk hw ih =>
      obtain ⟨a, ha, he⟩ := List.mem_iff_getElem.1 ih
      exact h.done a ha _ hk hw (by simp [gt, List.getD_eq_getElem?_getD, List.getElem?_eq_getElem ha, he])
  funext j
  refine bool_same ?_
  rw [rchB_iff]
  simp only [hasB, decide_eq_true_eq]
  exact ⟨fun hx => h.sub _ hx, fun hx => key _ hx⟩
/-- marks -/
def mkd (sb : List Bool) (j : Nat) : Bool := sb.getD j false
theorem mkd_set (sb : List Bool) (i j : Nat) (hi : i < sb.length) : mkd (sb.set i true) j = if j = i then true else mkd sb j := by
  simp only [mkd, List.getD_eq_getElem?_getD, List.getElem?_set]
  by_cases h : i = j
  · subst h; simp [hi]
  · simp [h, Ne.symm h]
/-- how many are not marked -/
def unm (sb : List Bool) : Nat := (sb.filter fun b => !b).length
theorem unm_set : ∀ (sb : List Bool) (i : Nat), i < sb.length → mkd sb i = false → unm (sb.set i true) + 1 = unm sb := by
  intro sb
  induction sb with
  | nil => intro i hi; simp at hi
  | cons b sb ih =>
    intro i hi hm
    cases i with
    | zero =>
      have : b = false := by simpa [mkd] using hm
      subst this
      simp [unm]
    | succ i =>
      have h := ih i (by simpa using hi) (by simpa [mkd] using hm)
      cases b <;> simp [unm] at h ⊢ <;> omega
/-- the marks: what is marked is reached; in this pass the first k ditches are done -/
structure Bel (N n : Nat) (fl : List Int) (s : Int) (u0 : Nat) (sb : List Bool) (more : Bool) (k : Nat) : Prop where
  len : sb.length = N
  has : mkd sb s.toNat = true
  sub : ∀ j, j < N → mkd sb j = true → Rch n fl s (j : Int)
  cl : more = false → ∀ q, q < k → 0 < dW fl q → mkd sb (dF fl q).toNat = true → mkd sb (dT fl q).toNat = true
  un : unm sb ≤ u0 ∧ (more = true → unm sb < u0)
theorem mkd_rep (N j : Nat) : mkd (List.replicate N false) j = false := by
  simp only [mkd, List.getD_eq_getElem?_getD, List.getElem?_replicate]
  split <;> rfl
theorem Bel.start {N n : Nat} {fl : List Int} {s : Int} (hs : 0 ≤ s) (hs' : s.toNat < N) : ∀ j, j < N → mkd ((List.replicate N false).set s.toNat true) j = true → Rch n fl s (j : Int) := fun j hj hm => by
  rw [mkd_set _ _ _ (by simpa using hs'), mkd_rep] at hm
  split at hm
  next e => rw [e, Int.toNat_of_nonneg hs]; exact .base
  next => cases hm
theorem Bel.skip {N n : Nat} {fl : List Int} {s : Int} {u0 : Nat} {sb : List Bool} {more : Bool} {k : Nat} (h : Bel N n fl s u0 sb more k) (hk : 0 < dW fl k → mkd sb (dF fl k).toNat = true → mkd sb (dT fl k).toNat = true) : Bel N n fl s u0 sb more (k + 1) :=
  ⟨h.len, h.has, h.sub, fun hm q hq hw hf => by
    by_cases e : q = k
    · subst e; exact hk hw hf
    · exact h.cl hm q (by omega) hw hf, h.un⟩
theorem Bel.set {N n : Nat} {fl : List Int} {s : Int} {u0 : Nat} {sb : List Bool} {more : Bool} {k : Nat} (h : Bel N n fl s u0 sb more k) (hk : k < n) (hw : 0 < dW fl k) (hF : 0 ≤ dF fl k ∧ (dF fl k).toNat < N) (hT : 0 ≤ dT fl k ∧ (dT fl k).toNat < N) (hf : mkd sb (dF fl k).toNat = true) (ht : mkd sb (dT fl k).toNat = false) :
    Bel N n fl s u0 (sb.set (dT fl k).toNat true) true (k + 1) := by
  have hl : (dT fl k).toNat < sb.length := by rw [h.len]; exact hT.2
  refine ⟨by simp [h.len], ?_, fun j hj hm => ?_, (fun hm => by cases hm), ?_⟩
  · rw [mkd_set _ _ _ hl]
    split
    · rfl
    · exact h.has
  · rw [mkd_set _ _ _ hl] at hm
    split at hm
    next e =>
      rw [e, Int.toNat_of_nonneg hT.1]
      have := h.sub _ hF.2 hf
      rw [Int.toNat_of_nonneg hF.1] at this
      exact .step this hk hw
    next => exact h.sub j hj hm
  · have := unm_set sb _ hl ht
    have := h.un.1
    exact ⟨by omega, fun _ => by omega⟩
theorem Bel.fin {N n : Nat} {fl : List Int} {s : Int} {u0 : Nat} {sb : List Bool} (h : Bel N n fl s u0 sb false n) (hs : 0 ≤ s) (hd : ∀ q, q < n → 0 ≤ dF fl q ∧ 0 ≤ dT fl q) : ∀ j, j < N → mkd sb j = rchB n fl s j := fun j hj => by
  have key : ∀ x, Rch n fl s x → 0 ≤ x ∧ mkd sb x.toNat = true := fun x hx => by
    induction hx with
    | base => exact ⟨hs, h.has⟩
    | step hx hk hw ih => exact ⟨(hd _ hk).2, h.cl rfl _ hk hw ih.2⟩
  refine bool_same ?_
  rw [rchB_iff]
  exact ⟨fun hm => h.sub j hj hm, fun hm => by have := (key _ hm).2; simpa using this⟩
theorem idxTo_same {p q : Nat → Bool} (N : Nat) (h : ∀ j, j < N → p j = q j) : idxTo p N = idxTo q N := by
  induction N with
  | zero => rfl
  | succ N ih =>
    have h1 := ih fun j hj => h j (by omega)
    have h2 := h N (by omega)
    simp only [idxTo, h1, h2]
end Go.Proofs.Ytcgnnlgakfndaaa
