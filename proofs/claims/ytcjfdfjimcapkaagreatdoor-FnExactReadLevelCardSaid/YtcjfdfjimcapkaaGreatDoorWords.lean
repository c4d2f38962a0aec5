/-
  Words for memory and lists, without any program text: a slice that reads as a list of cells, a slice that the call itself made, worlds that differ in one block only. No condition.
-/
import Derived.WalkKit
import Derived.ProofKit
import Derived.OpenShut
import Derived.ShutString
import Derived.ChangeOld
import Derived.Below
import Derived.Deep.LoopGhost
import Derived.Deep.Draws
import Derived.Lib.Hide
import Derived.Laws.MakeOwn
import Derived.Laws.OwnMore
import Derived.Laws.Rows
namespace Go.Proofs.YtcjfdfjimcapkaaGreatDoor
set_option linter.unusedVariables false
open Go.RowKit

/-- the i-th number of a list; 0 beyond its end -/
def gt (zs : List Int) (i : Nat) : Int := zs.getD i 0
/-- numbers as cells -/
def ints (zs : List Int) : List Value := zs.map (Value.int .i64)
theorem ints_len (zs : List Int) : (ints zs).length = zs.length := by simp [ints]
theorem ints_get (zs : List Int) (i : Nat) (h : i < zs.length) : (ints zs)[i]? = some (.int .i64 (gt zs i)) := by
  simp [ints, gt, List.getElem?_eq_getElem h]

/-- the slice value '.slice A n c' reads, in the world w, as these cells (n times the element's size); A may be anything where there is no cell -/
def RC (w : World) (A : Option Addr) (cs : List Value) : Prop :=
  0 < cs.length → ∃ b off, A = some ⟨b, off, none⟩ ∧ b < w.heap.size ∧ ∀ i, i < cs.length → w.cell? ⟨b, off + i, none⟩ = cs[i]?
/-- the same, where the slice begins a block of its own, with a number from B to E - 1, that may be written -/
def OwnC (B E : Nat) (w : World) (A : Option Addr) (cs : List Value) : Prop :=
  0 < cs.length → ∃ g cur T, A = some ⟨g, 0, none⟩ ∧ B ≤ g ∧ g < E ∧ w.heap[g]? = some (.cells cur T (0, 0)) ∧ ∀ i, i < cs.length → cur[i]? = cs[i]?
/-- only the block where a slice of n cells begins has been written -/
structure Only (n : Nat) (A : Option Addr) (w w' : World) : Prop where
  os : w'.os = w.os
  tape : w'.tape = w.tape
  output : w'.output = w.output
  size : w'.heap.size = w.heap.size
  block : ∀ j, (0 < n → ∀ g, A = some ⟨g, 0, none⟩ → j ≠ g) → w'.heap[j]? = w.heap[j]?

theorem RC.nil (w : World) (A : Option Addr) : RC w A [] := fun h => absurd h (by simp)
theorem OwnC.nil (B E : Nat) (w : World) (A : Option Addr) : OwnC B E w A [] := fun h => absurd h (by simp)
theorem OwnC.rc {B E : Nat} {w : World} {A : Option Addr} {cs : List Value} (h : OwnC B E w A cs) : RC w A cs := fun hn => by
  obtain ⟨g, cur, T, rfl, _, _, hg, hc⟩ := h hn
  refine ⟨g, 0, rfl, (Array.getElem?_eq_some_iff.1 hg).1, fun i hi => ?_⟩
  rw [Nat.zero_add, cell_of_row w g i cur T (0, 0) hg]
  exact hc i hi
theorem RC.below {w w' : World} {A : Option Addr} {cs : List Value} (h : RC w A cs) (hb : Below w.heap.size w w') : RC w' A cs := fun hn => by
  obtain ⟨b, off, rfl, hlt, hc⟩ := h hn
  exact ⟨b, off, rfl, Nat.lt_of_lt_of_le hlt hb.size, fun i hi => (hb.cell (p := ⟨b, off + i, none⟩) hlt).trans (hc i hi)⟩
theorem RC.alloc {w : World} {A : Option Addr} {cs : List Value} (h : RC w A cs) (o : Obj) : RC (w.alloc o) A cs :=
  h.below ((Below.refl _ _).alloc (Nat.le_refl _) o)
theorem RC.drew {w : World} {A : Option Addr} {cs : List Value} (h : RC w A cs) : RC w.drew A cs := h
theorem OwnC.below {B E : Nat} {w w' : World} {A : Option Addr} {cs : List Value} (h : OwnC B E w A cs) (hb : Below E w w') : OwnC B E w' A cs := fun hn => by
  obtain ⟨g, cur, T, rfl, h1, h2, hg, hc⟩ := h hn
  exact ⟨g, cur, T, rfl, h1, h2, (hb.block g h2).trans hg, hc⟩
theorem OwnC.alloc {B E : Nat} {w : World} {A : Option Addr} {cs : List Value} (h : OwnC B E w A cs) (o : Obj) : OwnC B E (w.alloc o) A cs := fun hn => by
  obtain ⟨g, cur, T, rfl, h1, h2, hg, hc⟩ := h hn
  exact ⟨g, cur, T, rfl, h1, h2, (Below.heap_alloc w o g (Array.getElem?_eq_some_iff.1 hg).1).trans hg, hc⟩
theorem OwnC.drew {B E : Nat} {w : World} {A : Option Addr} {cs : List Value} (h : OwnC B E w A cs) : OwnC B E w.drew A cs := h
theorem OwnC.wide {B E B' E' : Nat} {w : World} {A : Option Addr} {cs : List Value} (h : OwnC B E w A cs) (hB : B' ≤ B) (hE : E ≤ E') : OwnC B' E' w A cs := fun hn => by
  obtain ⟨g, cur, T, rfl, h1, h2, hg, hc⟩ := h hn
  exact ⟨g, cur, T, rfl, by omega, by omega, hg, hc⟩

theorem Only.refl (n : Nat) (A : Option Addr) (w : World) : Only n A w w := ⟨rfl, rfl, rfl, rfl, fun _ _ => rfl⟩
/-- old blocks are as they were where the written slice is the call's own -/
theorem Only.below {n B E : Nat} {A : Option Addr} {w w' : World} {cs : List Value} (h : Only n A w w') (ho : OwnC B E w A cs) (hn : n ≤ cs.length) : Below B w w' :=
  ⟨h.os, h.tape, h.output, by rw [h.size]; exact Nat.le_refl _, fun j hj => h.block j fun h0 g hA e => by
    obtain ⟨g', _, _, hA', h1, _⟩ := ho (by omega)
    rw [hA] at hA'
    cases hA'
    omega⟩
/-- another list of the call's own is as it was -/
theorem OwnC.only {n B E B' E' : Nat} {A A' : Option Addr} {w w' : World} {cs cs' : List Value} (h : OwnC B E w A cs) (ho : Only n A' w w') (h' : OwnC B' E' w A' cs') (hn : n ≤ cs'.length)
    (hd : E ≤ B' ∨ E' ≤ B) : OwnC B E w' A cs := fun h0 => by
  obtain ⟨g, cur, T, rfl, h1, h2, hg, hc⟩ := h h0
  refine ⟨g, cur, T, rfl, h1, h2, ?_, hc⟩
  rw [ho.block g fun hn0 g' hA e => ?_]
  · exact hg
  · obtain ⟨g2, _, _, hA', h3, h4, _⟩ := h' (by omega)
    rw [hA] at hA'
    cases hA'
    omega
theorem OwnC.lt {B E : Nat} {w : World} {A : Option Addr} {cs : List Value} (h : OwnC B E w A cs) (hE : E ≤ B) : cs.length = 0 := by
  rcases Nat.eq_zero_or_pos cs.length with h0 | h0
  · exact h0
  · obtain ⟨_, _, _, _, h1, h2, _⟩ := h h0
    omega

/-- the numbers k, k + 1, .. that a mark writes -/
def marks (k : Int) : Nat → List Int
  | 0 => []
  | n + 1 => marks k n ++ [k + n]
theorem marks_len (k : Int) (n : Nat) : (marks k n).length = n := by
  induction n with
  | zero => rfl
  | succ n ih => simp [marks, ih]
theorem gt_snoc_lt (l : List Int) (x : Int) (i : Nat) (h : i < l.length) : gt (l ++ [x]) i = gt l i := by
  simp [gt, List.getD_eq_getElem?_getD, List.getElem?_append_left h]
theorem gt_snoc_eq (l : List Int) (x : Int) : gt (l ++ [x]) l.length = x := by
  simp [gt, List.getD_eq_getElem?_getD]
theorem gt_marks (k : Int) (n i : Nat) (h : i < n) : gt (marks k n) i = k + i := by
  induction n with
  | zero => omega
  | succ n ih =>
    rw [marks]
    by_cases hi : i < n
    · rw [gt_snoc_lt _ _ _ (by rw [marks_len]; exact hi)]
      exact ih hi
    · obtain rfl : i = n := by omega
      have h := gt_snoc_eq (marks k i) (k + i)
      rw [marks_len] at h
      exact h

theorem eq_of_gt {xs ys : List Int} (hl : xs.length = ys.length) (h : ∀ i, i < xs.length → gt xs i = gt ys i) : xs = ys := by
  apply List.ext_getElem hl
  intro i h1 h2
  have := h i h1
  simpa [gt, List.getD_eq_getElem?_getD, List.getElem?_eq_getElem h1, List.getElem?_eq_getElem h2] using this

theorem bl_alloc {a w : World} (h : Below a.heap.size a w) (o : Obj) : Below a.heap.size a (w.alloc o) := h.alloc h.size o
theorem bl_drewN {B : Nat} {a w : World} (h : Below B a w) (n : Nat) : Below B a (w.drewN n) := ⟨h.os, h.tape, h.output, h.size, h.block⟩
theorem bl_set {a w : World} (h : Below a.heap.size a w) {p : Addr} (hp : a.heap.size ≤ p.block) (u : Value) : Below a.heap.size a (w.setCell p u) := h.setCell hp u
theorem bl_trans {a b c : World} (h : Below a.heap.size a b) (k : Below b.heap.size b c) : Below a.heap.size a c := h.trans (k.mono h.size)
theorem RC.drewN {w : World} {A : Option Addr} {cs : List Value} (h : RC w A cs) (n : Nat) : RC (w.drewN n) A cs := h
theorem OwnC.drewN {B E : Nat} {w : World} {A : Option Addr} {cs : List Value} (h : OwnC B E w A cs) (n : Nat) : OwnC B E (w.drewN n) A cs := h
/-- the cells of a block of two, three cells, behind a call that leaves old blocks alone -/
theorem cells_two {W w1 : World} {g : Nat} {x y : Value} {t : TypeId} (h : W.heap[g]? = some (.cells #[x, y] t (0, 0))) (hb : Below W.heap.size W w1) :
    w1.cell? ⟨g, 0, none⟩ = some x ∧ w1.cell? ⟨g, 1, none⟩ = some y ∧ w1.frozen? ⟨g, 0, none⟩ = false ∧ w1.frozen? ⟨g, 1, none⟩ = false ∧ g < w1.heap.size := by
  have hlt := (Array.getElem?_eq_some_iff.1 h).1
  have h' := (hb.block g hlt).trans h
  exact ⟨cell_of_row w1 g 0 _ _ _ h', cell_of_row w1 g 1 _ _ _ h', frozen_of_row w1 g 0 _ _ h', frozen_of_row w1 g 1 _ _ h', (Array.getElem?_eq_some_iff.1 h').1⟩
theorem cells_three {W w1 : World} {g : Nat} {x y z : Value} {t : TypeId} (h : W.heap[g]? = some (.cells #[x, y, z] t (0, 0))) (hb : Below W.heap.size W w1) :
    w1.cell? ⟨g, 0, none⟩ = some x ∧ w1.cell? ⟨g, 1, none⟩ = some y ∧ w1.cell? ⟨g, 2, none⟩ = some z ∧ w1.frozen? ⟨g, 0, none⟩ = false ∧ w1.frozen? ⟨g, 1, none⟩ = false ∧ w1.frozen? ⟨g, 2, none⟩ = false ∧ g < w1.heap.size := by
  have hlt := (Array.getElem?_eq_some_iff.1 h).1
  have h' := (hb.block g hlt).trans h
  exact ⟨cell_of_row w1 g 0 _ _ _ h', cell_of_row w1 g 1 _ _ _ h', cell_of_row w1 g 2 _ _ _ h', frozen_of_row w1 g 0 _ _ h', frozen_of_row w1 g 1 _ _ h', frozen_of_row w1 g 2 _ _ h', (Array.getElem?_eq_some_iff.1 h').1⟩
theorem keep_blk {W w1 : World} {g : Nat} {o : Obj} (h : W.heap[g]? = some o) (hb : Below W.heap.size W w1) : w1.heap[g]? = some o :=
  (hb.block g (Array.getElem?_eq_some_iff.1 h).1).trans h
theorem row_two {w : World} {g : Nat} {x y : Value} {t : TypeId} (h : w.heap[g]? = some (.cells #[x, y] t (0, 0))) :
    w.cell? ⟨g, 0, none⟩ = some x ∧ w.cell? ⟨g, 1, none⟩ = some y ∧ g < w.heap.size :=
  ⟨cell_of_row w g 0 _ _ _ h, cell_of_row w g 1 _ _ _ h, (Array.getElem?_eq_some_iff.1 h).1⟩
theorem row_three {w : World} {g : Nat} {x y z : Value} {t : TypeId} (h : w.heap[g]? = some (.cells #[x, y, z] t (0, 0))) :
    w.cell? ⟨g, 0, none⟩ = some x ∧ w.cell? ⟨g, 1, none⟩ = some y ∧ w.cell? ⟨g, 2, none⟩ = some z ∧ g < w.heap.size :=
  ⟨cell_of_row w g 0 _ _ _ h, cell_of_row w g 1 _ _ _ h, cell_of_row w g 2 _ _ _ h, (Array.getElem?_eq_some_iff.1 h).1⟩
theorem blk_new {w : World} {o : Obj} {g : Nat} (h : g = w.heap.size) : (w.alloc o).heap[g]? = some o := by subst h; exact heap_alloc_new w o
theorem blk_old {w : World} {o o' : Obj} {g : Nat} (h : w.heap[g]? = some o) : (w.alloc o').heap[g]? = some o := (Below.heap_alloc w o' g (Array.getElem?_eq_some_iff.1 h).1).trans h
theorem blk_drewN {w : World} {o : Obj} {g n : Nat} (h : w.heap[g]? = some o) : (w.drewN n).heap[g]? = some o := h
theorem OwnC.far {B E : Nat} {w : World} {A : Option Addr} {cs : List Value} (h : OwnC B E w A cs) {p : Addr} (hp : p.block < B ∨ E ≤ p.block) (u : Value) : OwnC B E (w.setCell p u) A cs := fun hn => by
  obtain ⟨g, cur, T, rfl, h1, h2, hg, hc⟩ := h hn
  exact ⟨g, cur, T, rfl, h1, h2, (Below.heap_setCell w p u g (by omega)).trans hg, hc⟩
/-- a call that makes a new list of numbers -/
def NewInts (zs : List Int) (w : World) (e : Ending) (w' : World) : Prop :=
  ∃ A c, e = .returned (.slice A zs.length c) ∧ OwnC w.heap.size w'.heap.size w' A (ints zs) ∧ Below w.heap.size w w'
theorem ret_bool {a b : Bool} (h : a = b) : Ending.returned (.bool a) = .returned (.bool b) := by rw [h]
theorem ret_int {k : IntKind} {a b : Int} (h : a = b) : Ending.returned (.int k a) = .returned (.int k b) := by rw [h]
theorem ret_two {k k' : IntKind} {a a' b b' : Int} (h1 : a = a') (h2 : b = b') : Ending.returned (.tuple #[.int k a, .int k' b]) = .returned (.tuple #[.int k a', .int k' b']) := by rw [h1, h2]
theorem beq0_yes {n : Nat} (h : n = 0) : ((n : Int) == 0) = true := by subst h; rfl
theorem beq0_no {n : Nat} (h : ¬ n = 0) : ((n : Int) == 0) = false := by simpa using h
theorem ret_v {k : IntKind} {a b : Int} (h : a = b) : Value.int k a = Value.int k b := by rw [h]
/-- a call that makes a new list of numbers, with a code; with a number and a code -/
def NewIntsC (zs : List Int) (code : Int) (w : World) (e : Ending) (w' : World) : Prop :=
  ∃ A c, e = .returned (.tuple #[.slice A zs.length c, .int .i64 code]) ∧ OwnC w.heap.size w'.heap.size w' A (ints zs) ∧ Below w.heap.size w w'
def NewIntsCC (zs : List Int) (x code : Int) (w : World) (e : Ending) (w' : World) : Prop :=
  ∃ A c, e = .returned (.tuple #[.slice A zs.length c, .int .i64 x, .int .i64 code]) ∧ OwnC w.heap.size w'.heap.size w' A (ints zs) ∧ Below w.heap.size w w'
/-- the loop that appends: behind k rounds the list is 'xs k' -/
def AppRel (T : TypeId) (xs : Nat → List Int) (n : Nat) (w : World) (m : Nat) (i v : Value) (wr : World) : Prop :=
  ∃ k, k ≤ n ∧ m = n - k ∧ i = .int .i64 (k : Int) ∧ wr.ownsRow w.heap.size T 1 v (xs k).length (ints (xs k)) ∧ Below w.heap.size w wr
theorem app_own {w1 : World} {B T : Nat} {v' : Value} {ys zs : List Int} {X : Int} (hown' : w1.ownsRow B T 1 v' (ys.length + 1) (ints ys ++ [.int .i64 X])) (hx : zs = ys ++ [X]) :
    w1.ownsRow B T 1 v' zs.length (ints zs) := by
  subst hx
  simpa [ints] using hown'
theorem app_below {w W w1 : World} {T : TypeId} {v : Value} {n : Nat} {xs : List Value} (hW : Below w.heap.size w W) (hown : W.ownsRow w.heap.size T 1 v n xs) (hg : W.grownBy w1 v.ownBlock) : Below w.heap.size w w1 :=
  hW.grown hg hW.size (fun k hk => (hown.lt k hk).1)
theorem own_end {w wr : World} {T : TypeId} {v : Value} {xs : List Int} (hown : wr.ownsRow w.heap.size T 1 v xs.length (ints xs)) :
    ∃ A c, v = .slice A xs.length c ∧ OwnC w.heap.size wr.heap.size wr A (ints xs) := by
  rcases hown.2 with ⟨rfl, h0⟩ | ⟨g, cap, cur, rfl, hb, hg, hn, hm, hs, ht⟩
  · refine ⟨none, 0, by rw [h0], ?_⟩
    intro h
    rw [ints_len, h0] at h
    exact absurd h (by omega)
  · refine ⟨_, _, rfl, fun _ => ⟨g, cur, T, rfl, hb, (Array.getElem?_eq_some_iff.1 hg).1, hg, fun i hi => ?_⟩⟩
    rw [ints_len] at hi
    rw [← ht, List.getElem?_take, if_pos (by omega)]
    simp
theorem ret_list1 {v v' x : Value} (h : v = v') : Ending.returned (.tuple #[v, x]) = .returned (.tuple #[v', x]) := by rw [h]
theorem ret_list2 {v v' x y : Value} (h : v = v') : Ending.returned (.tuple #[v, x, y]) = .returned (.tuple #[v', x, y]) := by rw [h]
theorem ret_val {v v' : Value} (h : v = v') : Ending.returned v = .returned v' := by rw [h]
theorem newC_nil (code : Int) (w : World) (A : Option Addr) (c : Nat) {w' : World} (hb : Below w.heap.size w w') : NewIntsC [] code w (.returned (.tuple #[.slice A 0 c, .int .i64 code])) w' :=
  ⟨A, c, rfl, OwnC.nil _ _ _ _, hb⟩
theorem newCC_nil (x code : Int) (w : World) (A : Option Addr) (c : Nat) {w' : World} (hb : Below w.heap.size w w') : NewIntsCC [] x code w (.returned (.tuple #[.slice A 0 c, .int .i64 x, .int .i64 code])) w' :=
  ⟨A, c, rfl, OwnC.nil _ _ _ _, hb⟩
theorem newC_end {xs : List Int} {code : Int} {w wr : World} {T : TypeId} {v : Value} (hown : wr.ownsRow w.heap.size T 1 v xs.length (ints xs)) (hb : Below w.heap.size w wr) :
    NewIntsC xs code w (.returned (.tuple #[v, .int .i64 code])) wr := by
  obtain ⟨A, c, rfl, h⟩ := own_end hown
  exact ⟨A, c, rfl, h, hb⟩
theorem newCC_end {xs : List Int} {x code : Int} {w wr : World} {T : TypeId} {v : Value} (hown : wr.ownsRow w.heap.size T 1 v xs.length (ints xs)) (hb : Below w.heap.size w wr) :
    NewIntsCC xs x code w (.returned (.tuple #[v, .int .i64 x, .int .i64 code])) wr := by
  obtain ⟨A, c, rfl, h⟩ := own_end hown
  exact ⟨A, c, rfl, h, hb⟩
theorem new_end {xs : List Int} {w wr : World} {T : TypeId} {v : Value} (hown : wr.ownsRow w.heap.size T 1 v xs.length (ints xs)) (hb : Below w.heap.size w wr) : NewInts xs w (.returned v) wr := by
  obtain ⟨A, c, rfl, h⟩ := own_end hown
  exact ⟨A, c, rfl, h, hb⟩
theorem newC_of {xs : List Int} {code : Int} {w W w1 : World} {A : Option Addr} {c : Nat} (ho : OwnC W.heap.size w1.heap.size w1 A (ints xs)) (hW : Below w.heap.size w W) (hb : Below W.heap.size W w1) :
    NewIntsC xs code w (.returned (.tuple #[.slice A xs.length c, .int .i64 code])) w1 := ⟨A, c, rfl, ho.wide hW.size (Nat.le_refl _), bl_trans hW hb⟩
theorem only_undraw {n d : Nat} {A : Option Addr} {w w' : World} (h : Only n A (w.drewN d) w') : Only n A w w' := ⟨h.os, h.tape, h.output, h.size, h.block⟩
theorem app_news {W : World} {g : Nat} {x : Value} {T : TypeId} (h : W.heap[g]? = some (.cells #[x] T (0, 0))) : ∀ j u, [x][j]? = some u → W.cell? (Addr.add ⟨g, 0, none⟩ j) = some u := by
  intro j u hj
  match j, hj with
  | 0, hj =>
    simp at hj
    subst hj
    simpa [Addr.add] using cell_of_row W g 0 _ _ _ h
theorem app_one (x : Int) : ∀ u ∈ [Value.int .i64 x], u.oneCell' = true := by
  intro u hu
  simp at hu
  subst hu
  rfl
theorem own_lit {w W : World} (T : TypeId) (hW : Below w.heap.size w W) : (W.alloc (.cells #[] T)).ownsRow w.heap.size T 1 (.slice (some ⟨W.heap.size, 0, none⟩) 0 0) 0 (ints []) :=
  World.ownsRow_lit (e := T) (size := 1) W #[] 0 hW.size (Nat.zero_le _) rfl
theorem own_dr {w : World} {B T n s : Nat} {v : Value} {xs : List Value} (h : w.ownsRow B T s v n xs) (k : Nat) : (w.drewN k).ownsRow B T s v n xs := h
theorem bl_undraw {B n : Nat} {w w' : World} (h : Below B (w.drewN n) w') : Below B w w' := ⟨h.os, h.tape, h.output, h.size, h.block⟩
theorem run_make_full_row {P : Program} (t e : TypeId) (i : TypeInfo) (z : Value) (ht : P.underlying t = some (.slice e)) (hi : P.info? e = some i) (hz : i.zero = some z)
    (n : Nat) (hbytes : i.bytes * n ≤ 281474976710656) (h63 : n ≤ 9223372036854775807) (w : World) :
    (Instr.makeSlice t (.int .i64 (n : Int)) (.int .i64 (n : Int))).run P w = .ok (.slice (some ⟨w.heap.size, 0, none⟩) n n) (w.alloc (.cells (madeCells z.cells (n * i.size)) e)) := by
  have hb : (i.bytes : Int) * (n : Int) ≤ 281474976710656 := by
    have h : ((i.bytes * n : Nat) : Int) ≤ 281474976710656 := by omega
    rwa [Int.natCast_mul] at h
  have hr := run_make (P := P) w t e i z ht hi hz .i64 .i64 n n (by omega) (by omega) hb (by omega)
  simp only [Int.toNat_natCast] at hr
  exact hr
end Go.Proofs.YtcjfdfjimcapkaaGreatDoor
