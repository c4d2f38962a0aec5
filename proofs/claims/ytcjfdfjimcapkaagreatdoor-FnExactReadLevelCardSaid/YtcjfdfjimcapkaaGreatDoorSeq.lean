/-
  Plain words on lists of numbers, without any program text: places, ranks, what the soil holds and what runs off. No condition.
-/
import Derived.Test.YtcjfdfjimcapkaaGreatDoorPlain
namespace Go.Proofs.YtcjfdfjimcapkaaGreatDoor
set_option linter.unusedVariables false
/-- what the soil holds behind k days, and the most that it held -/
def roomH (zs : List Int) (loss held : Int) : Nat → Int
  | 0 => held
  | k + 1 => mx 0 (roomH zs loss held k - loss) + gt zs k
def roomM (zs : List Int) (loss held : Int) : Nat → Int
  | 0 => held
  | k + 1 => mx (roomM zs loss held k) (roomH zs loss held (k + 1))
def roomV (zs : List Int) (loss held : Int) : Int := if rainOk zs && rainB loss && heldB held then roomM zs loss held zs.length else 0
def roomC (zs : List Int) (loss held : Int) : Int := if rainOk zs then (if rainB loss && heldB held then 0 else 2) else 1
theorem room_bad1 {zs : List Int} {loss held : Int} (h : rainOk zs = false) : roomV zs loss held = 0 ∧ roomC zs loss held = 1 := by simp [roomV, roomC, h]
theorem room_bad2 {zs : List Int} {loss held : Int} (h : rainOk zs = true) (h2 : rainB loss = false) : roomV zs loss held = 0 ∧ roomC zs loss held = 2 := by simp [roomV, roomC, h, h2]
theorem room_bad3 {zs : List Int} {loss held : Int} (h : rainOk zs = true) (h2 : rainB loss = true) (h3 : heldB held = false) : roomV zs loss held = 0 ∧ roomC zs loss held = 2 := by simp [roomV, roomC, h, h2, h3]
theorem room_ok {zs : List Int} {loss held : Int} (h : rainOk zs = true) (h2 : rainB loss = true) (h3 : heldB held = true) : roomV zs loss held = roomM zs loss held zs.length ∧ roomC zs loss held = 0 := by simp [roomV, roomC, h, h2, h3]
theorem roomH_bd {zs : List Int} {loss held : Int} (h : ∀ i, i < zs.length → 0 ≤ gt zs i ∧ gt zs i ≤ 3000) (h2 : 0 ≤ loss ∧ loss ≤ 3000) (h3 : 0 ≤ held ∧ held ≤ 100000) :
    ∀ k, k ≤ zs.length → 0 ≤ roomH zs loss held k ∧ roomH zs loss held k ≤ 100000 + 3000 * (k : Int) := by
  intro k
  induction k with
  | zero => intro _; simp [roomH]; omega
  | succ k ih =>
    intro hk
    have h4 := ih (by omega)
    have h5 := h k (by omega)
    have h6 := mx_bd 0 (roomH zs loss held k - loss)
    simp only [roomH]
    omega
theorem roomM_bd {zs : List Int} {loss held : Int} (h : ∀ i, i < zs.length → 0 ≤ gt zs i ∧ gt zs i ≤ 3000) (h2 : 0 ≤ loss ∧ loss ≤ 3000) (h3 : 0 ≤ held ∧ held ≤ 100000) :
    ∀ k, k ≤ zs.length → 0 ≤ roomM zs loss held k ∧ roomM zs loss held k ≤ 100000 + 3000 * (k : Int) := by
  intro k
  induction k with
  | zero => intro _; simp [roomM]; omega
  | succ k ih =>
    intro hk
    have h4 := ih (by omega)
    have h5 := roomH_bd h h2 h3 (k + 1) hk
    have h6 := mx_bd (roomM zs loss held k) (roomH zs loss held (k + 1))
    simp only [roomM]
    omega
theorem mx0_pos {x : Int} (h : 0 ≤ x) : mx 0 x = x := by unfold mx; split <;> omega
theorem mx0_le {x : Int} (h : x ≤ 0) : mx 0 x = 0 := by unfold mx; split <;> omega
theorem mx0_neg {x : Int} (h : ¬ 0 ≤ x) : mx 0 x = 0 := by unfold mx; split <;> omega
theorem room_step1 {zs : List Int} {loss held : Int} {k : Nat} (h : 0 ≤ roomH zs loss held k - loss) (h2 : roomM zs loss held k ≤ roomH zs loss held k - loss + gt zs k) :
    roomH zs loss held k - loss + gt zs k = roomH zs loss held (k + 1) ∧ roomH zs loss held k - loss + gt zs k = roomM zs loss held (k + 1) := by
  simp only [roomM, roomH, mx0_pos h, true_and]
  have := mx_bd (roomM zs loss held k) (roomH zs loss held k - loss + gt zs k)
  omega
theorem room_step2 {zs : List Int} {loss held : Int} {k : Nat} (h : 0 ≤ roomH zs loss held k - loss) (h2 : roomH zs loss held k - loss + gt zs k ≤ roomM zs loss held k) :
    roomH zs loss held k - loss + gt zs k = roomH zs loss held (k + 1) ∧ roomM zs loss held k = roomM zs loss held (k + 1) := by
  simp only [roomM, roomH, mx0_pos h, true_and]
  have := mx_bd (roomM zs loss held k) (roomH zs loss held k - loss + gt zs k)
  omega
theorem room_step3 {zs : List Int} {loss held : Int} {k : Nat} (h : roomH zs loss held k - loss ≤ 0) (h2 : roomM zs loss held k ≤ gt zs k) :
    gt zs k = roomH zs loss held (k + 1) ∧ gt zs k = roomM zs loss held (k + 1) := by
  have h3 := mx_bd (roomM zs loss held k) (gt zs k)
  simp only [roomM, roomH, mx0_le h, Int.zero_add, true_and]
  omega
theorem room_step4 {zs : List Int} {loss held : Int} {k : Nat} (h : roomH zs loss held k - loss ≤ 0) (h2 : gt zs k ≤ roomM zs loss held k) :
    gt zs k = roomH zs loss held (k + 1) ∧ roomM zs loss held k = roomM zs loss held (k + 1) := by
  have h3 := mx_bd (roomM zs loss held k) (gt zs k)
  simp only [roomM, roomH, mx0_le h, Int.zero_add, true_and]
  omega

/-- the indices from 0 to k - 1 at which something is so -/
def idxTo (q : Nat → Bool) : Nat → List Int
  | 0 => []
  | k + 1 => if q k then idxTo q k ++ [(k : Int)] else idxTo q k
theorem idxTo_yes {q : Nat → Bool} {k : Nat} (h : q k = true) : idxTo q (k + 1) = idxTo q k ++ [(k : Int)] := by simp [idxTo, h]
theorem idxTo_no {q : Nat → Bool} {k : Nat} (h : q k = false) : idxTo q (k + 1) = idxTo q k := by simp [idxTo, h]
theorem idxTo_len (q : Nat → Bool) (k : Nat) : (idxTo q k).length ≤ k := by
  induction k with
  | zero => simp [idxTo]
  | succ k ih =>
    unfold idxTo
    split
    · rw [List.length_append]; simp; omega
    · omega
/-- a level that is much greater than the one before -/
def risesP (zs : List Int) (by' : Int) (i : Nat) : Bool := decide (0 < i) && decide (by' ≤ gt zs i - gt zs (i - 1))
theorem risesP_zero (zs : List Int) (by' : Int) : risesP zs by' 0 = false := rfl
theorem risesP_yes {zs : List Int} {by' : Int} {i : Nat} (h : 0 < i) (h2 : by' ≤ gt zs i - gt zs (i - 1)) : risesP zs by' i = true := by simp [risesP, h, h2]
theorem risesP_no {zs : List Int} {by' : Int} {i : Nat} (h2 : ¬ by' ≤ gt zs i - gt zs (i - 1)) : risesP zs by' i = false := by simp [risesP, h2]
def risesL (zs : List Int) (by' : Int) : List Int := if gaugesOk zs && inR by' 1 4000 then idxTo (risesP zs by') zs.length else []
def risesC (zs : List Int) (by' : Int) : Int := if gaugesOk zs && inR by' 1 4000 then 0 else 2
theorem rises_bad1 {zs : List Int} {by' : Int} (h : gaugesOk zs = false) : risesL zs by' = [] ∧ risesC zs by' = 2 := by simp [risesL, risesC, h]
theorem rises_bad2 {zs : List Int} {by' : Int} (h : inR by' 1 4000 = false) : risesL zs by' = [] ∧ risesC zs by' = 2 := by simp [risesL, risesC, h]
theorem rises_ok {zs : List Int} {by' : Int} (h : gaugesOk zs = true) (h2 : inR by' 1 4000 = true) : risesL zs by' = idxTo (risesP zs by') zs.length ∧ risesC zs by' = 0 := by simp [risesL, risesC, h, h2]
theorem idx_one (zs : List Int) (by' : Int) : idxTo (risesP zs by') 1 = [] := by simp [idxTo, risesP]

theorem idx_last {zs : List Int} {y : Int} {j : Nat} (h : ¬ j + 1 < zs.length) (hk : j + 1 ≤ zs.length ∨ j + 1 = 1) : idxTo (risesP zs y) (j + 1) = idxTo (risesP zs y) zs.length := by
  rcases Nat.lt_or_ge j zs.length with h1 | h1
  · rw [show zs.length = j + 1 by omega]
  · have h0 : zs.length = 0 := by omega
    have hj : j = 0 := by omega
    rw [h0, hj, idx_one]
    rfl
/-- how many of the first k numbers are at least m; the ranks -/
def cntGe (zs : List Int) (m : Int) : Nat → Int
  | 0 => 0
  | k + 1 => if m ≤ gt zs k then cntGe zs m k + 1 else cntGe zs m k
theorem cntGe_yes {zs : List Int} {m : Int} {k : Nat} (h : m ≤ gt zs k) : cntGe zs m (k + 1) = cntGe zs m k + 1 := by simp [cntGe, h]
theorem cntGe_no {zs : List Int} {m : Int} {k : Nat} (h : ¬ m ≤ gt zs k) : cntGe zs m (k + 1) = cntGe zs m k := by simp [cntGe, h]
theorem cntGe_bd (zs : List Int) (m : Int) (k : Nat) : 0 ≤ cntGe zs m k ∧ cntGe zs m k ≤ (k : Int) := by
  induction k with
  | zero => simp [cntGe]
  | succ k ih => unfold cntGe; split <;> omega
def ranksTo (zs : List Int) : Nat → List Int
  | 0 => []
  | k + 1 => ranksTo zs k ++ [cntGe zs (gt zs k + 1) zs.length + 1]
theorem ranksTo_len (zs : List Int) (k : Nat) : (ranksTo zs k).length = k := by
  induction k with
  | zero => rfl
  | succ k ih => simp [ranksTo, ih]
def ranksL (zs : List Int) : List Int := if rainOk zs then ranksTo zs zs.length else []
def ranksC (zs : List Int) : Int := if rainOk zs then 0 else 1
theorem ranks_bad {zs : List Int} (h : rainOk zs = false) : ranksL zs = [] ∧ ranksC zs = 1 := by simp [ranksL, ranksC, h]
theorem ranks_ok {zs : List Int} (h : rainOk zs = true) : ranksL zs = ranksTo zs zs.length ∧ ranksC zs = 0 := by simp [ranksL, ranksC, h]

/-- what runs off: what the soil would hold, what it holds, and the list of what has run off -/
def runH (zs : List Int) (room loss held : Int) : Nat → Int
  | 0 => held
  | k + 1 => (mx 0 (runH zs room loss held k - loss) + gt zs k) - mx 0 (mx 0 (runH zs room loss held k - loss) + gt zs k - room)
def runX (zs : List Int) (room loss held : Int) (k : Nat) : Int := mx 0 (mx 0 (runH zs room loss held k - loss) + gt zs k - room)
def runO (zs : List Int) (room loss held : Int) : Nat → List Int
  | 0 => []
  | k + 1 => runO zs room loss held k ++ [runX zs room loss held k]
theorem runO_len (zs : List Int) (room loss held : Int) (k : Nat) : (runO zs room loss held k).length = k := by
  induction k with
  | zero => rfl
  | succ k ih => simp [runO, ih]
theorem runH_bd {zs : List Int} {room loss held : Int} (h : ∀ i, i < zs.length → 0 ≤ gt zs i ∧ gt zs i ≤ 3000) (_h2 : 0 ≤ loss ∧ loss ≤ 3000) (h4 : 0 ≤ room ∧ room ≤ 100000) (h3 : 0 ≤ held ∧ held ≤ room) :
    ∀ k, k ≤ zs.length → 0 ≤ runH zs room loss held k ∧ runH zs room loss held k ≤ room := by
  intro k
  induction k with
  | zero => intro _; simp [runH]; omega
  | succ k ih =>
    intro hk
    have h5 := ih (by omega)
    have h6 := h k (by omega)
    have h7 := mx_bd 0 (runH zs room loss held k - loss)
    have h8 := mx_bd 0 (mx 0 (runH zs room loss held k - loss) + gt zs k - room)
    simp only [runH]
    omega
def runV (_zs : List Int) (room loss held : Int) : Bool := heldB room && rainB loss && inR held 0 room
def runL (zs : List Int) (room loss held : Int) : List Int := if rainOk zs && runV zs room loss held then runO zs room loss held zs.length else []
def runK (zs : List Int) (room loss held : Int) : Int := if rainOk zs && runV zs room loss held then runH zs room loss held zs.length else 0
def runC (zs : List Int) (room loss held : Int) : Int := if rainOk zs then (if runV zs room loss held then 0 else 2) else 1
theorem run_bad0 {zs : List Int} {room loss held : Int} (h : rainOk zs = false) : runL zs room loss held = [] ∧ runK zs room loss held = 0 ∧ runC zs room loss held = 1 := by simp [runL, runK, runC, h]
theorem run_bad1 {zs : List Int} {room loss held : Int} (h : rainOk zs = true) (h1 : heldB room = false) : runL zs room loss held = [] ∧ runK zs room loss held = 0 ∧ runC zs room loss held = 2 := by simp [runL, runK, runC, runV, h, h1]
theorem run_bad2 {zs : List Int} {room loss held : Int} (h : rainOk zs = true) (h1 : rainB loss = false) : runL zs room loss held = [] ∧ runK zs room loss held = 0 ∧ runC zs room loss held = 2 := by simp [runL, runK, runC, runV, h, h1]
theorem run_bad3 {zs : List Int} {room loss held : Int} (h : rainOk zs = true) (h1 : inR held 0 room = false) : runL zs room loss held = [] ∧ runK zs room loss held = 0 ∧ runC zs room loss held = 2 := by simp [runL, runK, runC, runV, h, h1]
theorem run_ok {zs : List Int} {room loss held : Int} (h : rainOk zs = true) (h1 : heldB room = true) (h2 : rainB loss = true) (h3 : inR held 0 room = true) :
    runL zs room loss held = runO zs room loss held zs.length ∧ runK zs room loss held = runH zs room loss held zs.length ∧ runC zs room loss held = 0 := by simp [runL, runK, runC, runV, h, h1, h2, h3]
theorem run_step {zs : List Int} {room loss held p x h' : Int} {k : Nat} (hp : p = mx 0 (runH zs room loss held k - loss)) (hx : x = mx 0 (p + gt zs k - room)) (hh : h' = p + gt zs k - x) :
    h' = runH zs room loss held (k + 1) ∧ runO zs room loss held (k + 1) = runO zs room loss held k ++ [x] := by
  subst hp
  subst hx
  subst hh
  exact ⟨rfl, rfl⟩

theorem ranksL_len (zs : List Int) (hm : zs.length ≤ 1048576) : (ranksL zs).length ≤ 1048576 := by
  unfold ranksL
  split
  · rw [ranksTo_len]; exact hm
  · simp
theorem runL_len {zs : List Int} (room loss held : Int) (hm : zs.length ≤ 1048576) : (runL zs room loss held).length ≤ 1048576 := by
  unfold runL
  split
  · rw [runO_len]; exact hm
  · simp
theorem risesL_len {zs : List Int} (y : Int) (hm : zs.length ≤ 1048576) : (risesL zs y).length ≤ 1048576 := by
  unfold risesL
  split
  · exact Nat.le_trans (idxTo_len _ _) hm
  · simp
end Go.Proofs.YtcjfdfjimcapkaaGreatDoor
