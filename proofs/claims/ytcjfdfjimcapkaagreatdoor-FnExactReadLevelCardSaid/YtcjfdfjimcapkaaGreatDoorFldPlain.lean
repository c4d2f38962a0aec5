/-
  Plain words on the numbers in a text and on reading texts back, without any program text. No condition.
-/
import Derived.Test.YtcjfdfjimcapkaaGreatDoorNumPlain
import Derived.Test.YtcjfdfjimcapkaaGreatDoorSpPlain
import Derived.Lib.FieldsP
import Derived.Laws.RangeString
namespace Go.Proofs.YtcjfdfjimcapkaaGreatDoor
set_option linter.unusedVariables false
open Go.RowKit
/-! reading the digits back -/
theorem digitVal_of {k : Nat} (h : k < 10) : Lib.digitVal (UInt8.ofNat (48 + k)) = some k := by
  have : (UInt8.ofNat (48 + k)).toNat = 48 + k := by
    rw [UInt8.toNat_ofNat']
    omega
  unfold Lib.digitVal
  rw [this, if_pos (by omega)]
  congr 1
  omega
theorem decFrom_snoc {b : UInt8} {k : Nat} (hb : Lib.digitVal b = some k) : ∀ (l : List UInt8) (a m : Nat), Lib.decFrom a l = some m → Lib.decFrom a (l ++ [b]) = some (m * 10 + k)
  | [], a, m, h => by
    rw [Lib.decFrom] at h
    cases h
    rw [List.nil_append, Lib.decFrom, hb]
    rfl
  | c :: r, a, m, h => by
    rw [Lib.decFrom] at h
    rw [List.cons_append, Lib.decFrom]
    cases hc : Lib.digitVal c with
    | none => rw [hc] at h; cases h
    | some d =>
      rw [hc] at h
      exact decFrom_snoc hb r _ m h
theorem decFrom_dec (m : Nat) : Lib.decFrom 0 (Lib.decDigits m) = some m := by
  induction m using Nat.strongRecOn with
  | _ m ih =>
    by_cases h : m < 10
    · rw [Lib.decDigits_one h, Lib.decFrom, digitVal_of h]
      simp [Lib.decFrom]
    · rw [Lib.decDigits, dif_neg h, decFrom_snoc (digitVal_of (by omega)) _ _ _ (ih (m / 10) (by omega))]
      congr 1
      omega
theorem dec_ne (m : Nat) : Lib.decDigits m ≠ [] := by
  by_cases h : m < 10
  · rw [Lib.decDigits_one h]; simp
  · rw [Lib.decDigits, dif_neg h]; simp
theorem decNat_dec (m : Nat) : Lib.decNat (Lib.decDigits m) = some m := by
  unfold Lib.decNat
  rw [if_neg (by simpa using dec_ne m)]
  exact decFrom_dec m
theorem dec_head (m : Nat) : (Lib.decDigits m).head? ≠ some 45 := by
  intro e
  have := dig_in m 45 (by
    cases hd : Lib.decDigits m with
    | nil => rw [hd] at e; cases e
    | cons c r => rw [hd] at e; simp at e; simp [e])
  simp at this
theorem nDigits_small {m : Nat} (h : m < 1000000000000000000) : (Lib.decDigits m).length ≤ 18 := by
  have key : ∀ (k m : Nat), m < 10 ^ (k + 1) → (Lib.decDigits m).length ≤ k + 1 := by
    intro k
    induction k with
    | zero => intro m hm; rw [Lib.decDigits_one (by omega)]; simp
    | succ k ih =>
      intro m hm
      by_cases h10 : m < 10
      · rw [Lib.decDigits_one h10]; simp
      · rw [Lib.decDigits, dif_neg h10, List.length_append]
        have := ih (m / 10) (by rw [Nat.pow_succ] at hm; omega)
        simp
        omega
  exact key 17 m (by simpa using h)
theorem numO_itoa {n : Int} (h0 : -1000000000000000000 < n) (h1 : n < 1000000000000000000) : numO (Lib.itoa n) = some n := by
  by_cases hn : 0 ≤ n
  · obtain ⟨m, rfl⟩ : ∃ m : Nat, n = m := ⟨n.toNat, by omega⟩
    have ht : tailD (Lib.decDigits m) = Lib.decDigits m := by rw [tailD, if_neg (dec_head m)]
    rw [Lib.itoa_nonneg]
    exact numO_pos (by rw [ht]; exact decNat_dec m) (by rw [ht]; exact nDigits_small (by omega)) (by simp [isNeg, dec_head m])
  · obtain ⟨m, rfl⟩ : ∃ m : Nat, n = -(m : Int) := ⟨(-n).toNat, by omega⟩
    rw [Lib.itoa_neg m (by omega)]
    exact numO_neg (by rw [tailD_neg]; exact decNat_dec m) (by rw [tailD_neg]; exact nDigits_small (by omega)) (by simp [isNeg])
theorem num_itoa {n : Int} (h0 : -1000000000000000000 < n) (h1 : n < 1000000000000000000) : numB (Lib.itoa n) = true ∧ numV (Lib.itoa n) = n := num_ok (numO_itoa h0 h1) rfl
theorem num_text {l : List UInt8} (h : numB l = true) : Lib.itoa (numV l) = l := by
  unfold numB at h
  cases hn : numO l with
  | none => rw [hn] at h; cases h
  | some v =>
    rw [hn] at h
    have h2 : Lib.itoa v = l := by simpa using h
    rw [(num_ok hn h2).2, h2]
/-- the bytes of a numeral -/
theorem itoa_in (n : Int) : ∀ b ∈ Lib.itoa n, b = 45 ∨ (48 ≤ b.toNat ∧ b.toNat ≤ 57) := by
  intro b hb
  by_cases hn : 0 ≤ n
  · obtain ⟨m, rfl⟩ : ∃ m : Nat, n = m := ⟨n.toNat, by omega⟩
    rw [Lib.itoa_nonneg] at hb
    exact .inr (dig_in m b hb)
  · obtain ⟨m, rfl⟩ : ∃ m : Nat, n = -(m : Int) := ⟨(-n).toNat, by omega⟩
    rw [Lib.itoa_neg m (by omega)] at hb
    rcases List.mem_cons.1 hb with h | h
    · exact .inl h
    · exact .inr (dig_in m b h)
theorem itoa_some (n : Int) : Lib.itoa n ≠ [] := by
  by_cases hn : 0 ≤ n
  · obtain ⟨m, rfl⟩ : ∃ m : Nat, n = m := ⟨n.toNat, by omega⟩
    rw [Lib.itoa_nonneg]
    exact dec_ne m
  · obtain ⟨m, rfl⟩ : ∃ m : Nat, n = -(m : Int) := ⟨(-n).toNat, by omega⟩
    rw [Lib.itoa_neg m (by omega)]
    simp
theorem itoa_no (n : Int) {d : UInt8} (h1 : d ≠ 45) (h2 : d.toNat < 48 ∨ 57 < d.toNat) : d ∉ Lib.itoa n := by
  intro h
  rcases itoa_in n d h with h3 | h3
  · exact h1 h3
  · omega
/-! the fields of a text -/
/-- what parts numbers -/
def sepR (x : Nat) : Bool := decide (x ≠ 45) && (decide (x < 48) || decide (57 < x))
def fgo (cur : Option (List UInt8)) : List UInt8 → List (List UInt8)
  | [] => cur.toList
  | c :: r => if sepR c.toNat then cur.toList ++ fgo none r else fgo (some (cur.getD [] ++ [c])) r
def flds (l : List UInt8) : List (List UInt8) := fgo none l
theorem fgo_sep {c : UInt8} (hc : sepR c.toNat = true) (w : List UInt8) : ∀ (l : List UInt8) (cur : Option (List UInt8)), fgo cur (l ++ c :: w) = fgo cur l ++ flds w
  | [], cur => by simp only [List.nil_append, fgo, hc, if_true]; rfl
  | b :: r, cur => by
    rw [List.cons_append, fgo, fgo]
    split
    · rw [fgo_sep hc w r, List.append_assoc]
    · exact fgo_sep hc w r _
theorem flds_sep {c : UInt8} (hc : sepR c.toNat = true) (l w : List UInt8) : flds (l ++ c :: w) = flds l ++ flds w := fgo_sep hc w l none
theorem fgo_word : ∀ (x : List UInt8) (y : List UInt8), (∀ b ∈ x, sepR b.toNat = false) → fgo (some y) x = [y ++ x]
  | [], y, _ => by simp [fgo]
  | b :: r, y, h => by
    rw [fgo, if_neg (by rw [h b (by simp)]; simp)]
    have := fgo_word r (y ++ [b]) (fun c hc => h c (by simp [hc]))
    simpa using this
theorem flds_word {x : List UInt8} (h : ∀ b ∈ x, sepR b.toNat = false) (hx : x ≠ []) : flds x = [x] := by
  match x, hx with
  | b :: r, _ =>
    rw [flds, fgo, if_neg (by rw [h b (by simp)]; simp)]
    have := fgo_word r [b] (fun c hc => h c (by simp [hc]))
    simpa using this
theorem flds_num (n : Int) : flds (Lib.itoa n) = [Lib.itoa n] := by
  apply flds_word _ (itoa_some n)
  intro b hb
  rcases itoa_in n b hb with h | h
  · subst h; rfl
  · unfold sepR
    have h1 : decide (b.toNat < 48) = false := by simp; omega
    have h2 : decide (57 < b.toNat) = false := by simp; omega
    rw [h1, h2]
    simp
theorem flds_nil : flds [] = [] := rfl
/-- the library's pieces, for a text of small bytes -/
theorem spans_fgo (s : ByteArray) (ha : ∀ (i : Nat) (h : i < s.size), (s[i]'h).toNat < 128) : ∀ (f pos : Nat) (st : Option Nat) (acc : List (Nat × Nat)), s.size ≤ pos + f → pos ≤ s.size → (∀ a, st = some a → a < pos) →
    (Lib.closeSpans s (Lib.spansFromP sepR s f pos st acc)).map (fun x => (s.extract x.1 x.2).data.toList) = acc.map (fun x => (s.extract x.1 x.2).data.toList) ++ fgo (st.map fun a => (s.data.toList.take pos).drop a) (s.data.toList.drop pos)
  | f, pos, st, acc, hf, hp, hst => by
    have hsz : s.data.toList.length = s.size := rfl
    have hx : ∀ a b : Nat, (s.extract a b).data.toList = (s.data.toList.take b).drop a := by
      intro a b
      rw [List.drop_take, ByteArray.data_extract, Array.toList_extract]
    by_cases hlt : pos < s.size
    · obtain ⟨g, rfl⟩ : ∃ g, f = g + 1 := ⟨f - 1, by omega⟩
      have hc : s.data.toList[pos]? = some (s[pos]'hlt) := List.getElem?_eq_some_iff.2 ⟨hlt, rfl⟩
      have hd := decode_ascii s pos hlt (ha pos hlt)
      rw [drop_at hc, fgo]
      by_cases hsep : sepR (s[pos]'hlt).toNat = true
      · rw [if_pos hsep]
        cases st with
        | none =>
          simp only [Lib.spansFromP, hlt, if_true, hd, hsep]
          rw [spans_fgo s ha g (pos + 1) none acc (by omega) (by omega) (fun a h => by cases h)]
          rfl
        | some a =>
          simp only [Lib.spansFromP, hlt, if_true, hd, hsep]
          rw [spans_fgo s ha g (pos + 1) none _ (by omega) (by omega) (fun a h => by cases h)]
          rw [List.map_append, List.append_assoc]
          simp only [List.map_cons, List.map_nil, hx]
          rfl
      · rw [if_neg hsep]
        cases st with
        | none =>
          simp only [Lib.spansFromP, hlt, if_true, hd, if_neg hsep]
          rw [spans_fgo s ha g (pos + 1) (some pos) acc (by omega) (by omega) (fun a h => by cases h; omega)]
          congr 2
          simp only [Option.map_some, Option.map_none, Option.getD_none, List.nil_append, Option.some.injEq]
          rw [List.take_add_one, hc, List.drop_append_of_le_length (by rw [List.length_take]; omega)]
          have : (List.take pos s.data.toList).drop pos = [] := by rw [List.drop_eq_nil_iff, List.length_take]; omega
          rw [this]
          rfl
        | some a =>
          simp only [Lib.spansFromP, hlt, if_true, hd, if_neg hsep]
          have h1 := hst a rfl
          rw [spans_fgo s ha g (pos + 1) (some a) acc (by omega) (by omega) (fun b h => by cases h; omega)]
          congr 2
          simp only [Option.map_some, Option.getD_some, Option.some.injEq]
          rw [List.take_add_one, hc, List.drop_append_of_le_length (by rw [List.length_take]; omega)]
          rfl
    · obtain rfl : pos = s.size := by omega
      rw [Lib.spansFromP_end _ _ _ _ _ _ (by omega), show s.data.toList.drop s.size = [] from List.drop_eq_nil_of_le (by omega), fgo]
      cases st with
      | none => simp [Lib.closeSpans]
      | some a =>
        simp only [Lib.closeSpans, List.map_append, List.map_cons, List.map_nil, hx]
        rfl
  termination_by f => f
/-- the pieces of any text -/
def pcs (l : List UInt8) : List (List UInt8) := (Lib.goFieldsP sepR ⟨l.toArray⟩).map (fun x => x.data.toList)
theorem pcs_flds {l : List UInt8} (h : ∀ b ∈ l, b.toNat < 128) : pcs l = flds l := by
  unfold pcs Lib.goFieldsP Lib.spansOfP
  rw [List.map_map]
  have := spans_fgo ⟨l.toArray⟩ (fun i hi => h _ (by
    have : (⟨l.toArray⟩ : ByteArray)[i] = l[i]'(by simpa [ByteArray.size] using hi) := rfl
    rw [this]; exact List.getElem_mem _)) (ByteArray.size ⟨l.toArray⟩) 0 none [] (by omega) (by omega) (fun a h => by cases h)
  rw [List.map_nil, List.nil_append] at this
  exact this
/-- the numbers in a text: none where a piece is no numeral -/
def nums (l : List UInt8) : List Int := if (pcs l).all numB then (pcs l).map numV else []
theorem nums_of {l : List UInt8} {ns : List Int} (ha : ∀ b ∈ l, b.toNat < 128) (hf : flds l = ns.map Lib.itoa) (hb : ∀ n ∈ ns, -1000000000000000000 < n ∧ n < 1000000000000000000) : nums l = ns := by
  have hp := pcs_flds ha
  unfold nums
  rw [hp, hf]
  rw [if_pos (by
    rw [List.all_eq_true]
    intro x hx
    obtain ⟨n, hn, rfl⟩ := List.mem_map.1 hx
    exact (num_itoa (hb n hn).1 (hb n hn).2).1)]
  rw [List.map_map]
  conv => rhs; rw [← List.map_id ns]
  apply List.map_congr_left
  intro n hn
  exact (num_itoa (hb n hn).1 (hb n hn).2).2
/-! parting a text and setting it together again -/
theorem spl_word {d : UInt8} : ∀ {x : List UInt8}, d ∉ x → spl d x = [x]
  | [], _ => rfl
  | c :: r, h => by
    have h1 : ¬ c = d := fun e => h (by simp [e])
    have h2 : d ∉ r := fun e => h (by simp [e])
    rw [spl, if_neg h1, spl_word h2]
    rfl
theorem spl_app (d : UInt8) (w : List UInt8) : ∀ l, spl d (l ++ d :: w) = spl d l ++ spl d w
  | [] => by simp [spl]
  | c :: r => by
    rw [List.cons_append, spl, spl, spl_app d w r]
    split
    · rfl
    · cases hs : spl d r with
      | nil => exact absurd hs (spl_ne d r)
      | cons y t => rfl
/-- parts with a byte between them -/
def jn (d : UInt8) : List (List UInt8) → List UInt8
  | [] => []
  | [x] => x
  | x :: y :: r => x ++ d :: jn d (y :: r)
theorem jn_glue (d : UInt8) (x : List UInt8) : ∀ {P : List (List UInt8)}, P ≠ [] → jn d (glue x P) = x ++ jn d P
  | [y], _ => rfl
  | y :: z :: r, _ => by simp [glue, jn]
theorem jn_spl (d : UInt8) : ∀ l, jn d (spl d l) = l
  | [] => rfl
  | c :: r => by
    have ih := jn_spl d r
    rw [spl]
    split
    next h =>
      cases hs : spl d r with
      | nil => exact absurd hs (spl_ne d r)
      | cons y t => rw [jn, ← hs, ih, h]; rfl
    next h => rw [jn_glue d _ (spl_ne d r), ih]; rfl
theorem jn_snoc (d : UInt8) (x : List UInt8) : ∀ {P : List (List UInt8)}, P ≠ [] → jn d (P ++ [x]) = jn d P ++ d :: x
  | [y], _ => rfl
  | y :: z :: r, _ => by
    have := jn_snoc d x (P := z :: r) (by simp)
    simp only [List.cons_append, jn] at *
    rw [this]
    simp
theorem itoa_small (n : Int) : ∀ b ∈ Lib.itoa n, b.toNat < 128 := by
  intro b hb
  rcases itoa_in n b hb with h | h
  · subst h; decide
  · omega
theorem mem_gt {xs : List Int} {n : Int} (h : n ∈ xs) : ∃ k, k < xs.length ∧ gt xs k = n := by
  obtain ⟨k, hk, rfl⟩ := List.getElem_of_mem h
  exact ⟨k, hk, by simp [gt, hk]⟩
theorem jn_ge (d : UInt8) : ∀ (r : List (List UInt8)) (x : List UInt8), x.length + r.length ≤ (jn d (x :: r)).length
  | [], x => by simp [jn]
  | y :: t, x => by
    have := jn_ge d t y
    rw [jn, List.length_append, List.length_cons, List.length_cons]
    omega
theorem spl_piece {d : UInt8} {l x : List UInt8} (h : x ∈ spl d l) : x.length ≤ l.length := by
  have hj := jn_spl d l
  generalize spl d l = P at h hj
  subst hj
  induction P with
  | nil => cases h
  | cons y r ih =>
    have h1 := jn_ge d r y
    rcases List.mem_cons.1 h with e | e
    · subst e; omega
    · have := ih e
      match r, e with
      | z :: t, _ => rw [jn, List.length_append, List.length_cons]; omega
end Go.Proofs.YtcjfdfjimcapkaaGreatDoor
