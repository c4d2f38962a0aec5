/-
  Plain words on the parts of a text between bytes, without any program text. No condition.
-/
import Derived.Test.YtcjfdfjimcapkaaGreatDoorWords
import Derived.Lib.Split
import Derived.Lib.SplitLaws
namespace Go.Proofs.YtcjfdfjimcapkaaGreatDoor
set_option linter.unusedVariables false
/-- a text ahead of the first part -/
def glue (x : List UInt8) : List (List UInt8) → List (List UInt8)
  | [] => [x]
  | y :: r => (x ++ y) :: r
/-- the parts of a text between bytes d -/
def spl (d : UInt8) : List UInt8 → List (List UInt8)
  | [] => [[]]
  | c :: r => if c = d then [] :: spl d r else glue [c] (spl d r)
theorem spl_ne (d : UInt8) : ∀ l, spl d l ≠ []
  | [] => by simp [spl]
  | c :: r => by
    rw [spl]
    split
    · simp
    · cases spl d r <;> simp [glue]
theorem glue_nil (d : UInt8) (l : List UInt8) : glue [] (spl d l) = spl d l := by
  cases h : spl d l with
  | nil => exact absurd h (spl_ne d l)
  | cons y r => simp [glue]
theorem glue_glue (x y : List UInt8) (s : List (List UInt8)) : glue x (glue y s) = glue (x ++ y) s := by
  cases s <;> simp [glue]
/-- the parts P behind k bytes, the part under way begins at f -/
def SpIs (d : UInt8) (l : List UInt8) (P : List (List UInt8)) (f k : Nat) : Prop :=
  f ≤ k ∧ k ≤ l.length ∧ spl d l = P ++ glue ((l.take k).drop f) (spl d (l.drop k))
theorem sp_start (d : UInt8) (l : List UInt8) : SpIs d l [] 0 0 := ⟨Nat.le_refl _, Nat.zero_le _, by simp [glue_nil]⟩
theorem drop_at {l : List UInt8} {k : Nat} {c : UInt8} (h : l[k]? = some c) : l.drop k = c :: l.drop (k + 1) := by
  obtain ⟨hk, he⟩ := List.getElem?_eq_some_iff.1 h
  rw [List.drop_eq_getElem_cons hk, he]
theorem sp_hit {d : UInt8} {l : List UInt8} {P : List (List UInt8)} {f k : Nat} (h : SpIs d l P f k) (hc : l[k]? = some d) : SpIs d l (P ++ [(l.take k).drop f]) (k + 1) (k + 1) := by
  obtain ⟨hk, _⟩ := List.getElem?_eq_some_iff.1 hc
  refine ⟨Nat.le_refl _, hk, ?_⟩
  rw [h.2.2, drop_at hc, spl, if_pos rfl]
  have e : (l.take (k + 1)).drop (k + 1) = [] := by rw [List.drop_eq_nil_iff, List.length_take]; omega
  rw [e, glue_nil]
  simp [glue]
theorem sp_miss {d c : UInt8} {l : List UInt8} {P : List (List UInt8)} {f k : Nat} (h : SpIs d l P f k) (hc : l[k]? = some c) (hn : ¬ c = d) : SpIs d l P f (k + 1) := by
  obtain ⟨hk, he⟩ := List.getElem?_eq_some_iff.1 hc
  refine ⟨Nat.le_succ_of_le h.1, hk, ?_⟩
  rw [h.2.2, drop_at hc, spl, if_neg hn, glue_glue]
  congr 2
  rw [List.take_add_one, hc, List.drop_append_of_le_length (by rw [List.length_take]; have := h.1; omega)]
  rfl
theorem sp_end {d : UInt8} {l : List UInt8} {P : List (List UInt8)} {f : Nat} (h : SpIs d l P f l.length) : P ++ [l.drop f] = spl d l := by
  rw [h.2.2, List.take_length, List.drop_length]
  simp [spl, glue]
theorem splitK_spl (d : UInt8) : ∀ l : List UInt8, Lib.splitK [d] 0 (Lib.count l [d]) l = spl d l
  | [] => rfl
  | c :: r => by
    have ih := splitK_spl d r
    by_cases h : c = d
    · subst h
      rw [Lib.count_cons_eq, Nat.add_comm, Lib.splitK, spl, if_pos rfl]
      have e : Lib.index (c :: r) [c] = 0 := by simp [Lib.index]
      rw [e]
      simpa using ih
    · rw [Lib.count_cons_ne _ _ _ h, spl, if_neg h, ← ih]
      have h' : ¬ d = c := fun e => h e.symm
      have e : Lib.index (c :: r) [d] = if Lib.index r [d] == -1 then -1 else Lib.index r [d] + 1 := by simp [Lib.index, h']
      cases Lib.count r [d] with
      | zero => simp [Lib.splitK, glue]
      | succ k =>
        rw [Lib.splitK, Lib.splitK, e]
        by_cases hi : Lib.index r [d] = -1
        · simp [hi, glue]
        · have hg := Lib.index_ge r [d]
          obtain ⟨i, hi2⟩ : ∃ i : Nat, Lib.index r [d] = i := ⟨(Lib.index r [d]).toNat, by omega⟩
          rw [hi2]
          have h3 : ((i : Int) == -1) = false := by simp
          have h4 : ((i : Int) + 1 == -1) = false := by simp; omega
          have h5 : ((i : Int) + 1).toNat = i + 1 := by omega
          simp [h3, h4, h5, glue]
/-- the parts that are not empty -/
def wds (l : List UInt8) : List (List UInt8) := (spl 32 l).filter (fun x => !x.isEmpty)
theorem spl_len (d : UInt8) : ∀ l : List UInt8, (spl d l).length ≤ l.length + 1
  | [] => by simp [spl]
  | c :: r => by
    have := spl_len d r
    rw [spl]
    split
    · simp; omega
    · cases h : spl d r with
      | nil => exact absurd h (spl_ne d r)
      | cons y s => rw [h] at this; simp [glue] at *; omega
theorem sp_len {d : UInt8} {l : List UInt8} {P : List (List UInt8)} {f k : Nat} (h : SpIs d l P f k) : P.length ≤ l.length := by
  have h1 := spl_len d l
  have h2 := congrArg List.length h.2.2
  have h3 : 1 ≤ (glue ((l.take k).drop f) (spl d (l.drop k))).length := by cases spl d (l.drop k) <;> simp [glue]
  rw [List.length_append] at h2
  omega
end Go.Proofs.YtcjfdfjimcapkaaGreatDoor
