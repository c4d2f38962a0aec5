/-
  Contracts on nets: whether a ditch, a net is allowed; whether two nets are the same. They hold for at most 1048576 ditches.
-/
import Derived.Test.YtcjfdfjimcapkaaDoorNet
import Derived.Test.YtcjfdfjimcapkaaDoorBasic
import Derived.Laws.StructEq
namespace Go.Proofs.YtcjfdfjimcapkaaDoor
set_option linter.unusedVariables false
open Go.RowKit

/-- two ditches are the same -/
def eqD (a b f a' b' f' : Int) : Bool := a == a' && (b == b' && f == f')
@[go_sem high] theorem run_neq_ditch (a b f a' b' f' : Int) (w : World) : (binOp .neq 55 (.agg #[.int .i64 a, .int .i64 b, .int .i64 f]) (.agg #[.int .i64 a', .int .i64 b', .int .i64 f'])).run Tryd.prog w = .ok (.bool (!(eqD a b f a' b' f'))) w := by
  rw [run_neq_struct, run_equalIn_struct _ _ _ _ _ (by kernel_rfl) (by kernel_rfl)]
  have hf : (Tryd.prog.fieldsOf 55).toList.map (fun f => (f.name, f.type, f.offset)) = [("From", 2, 0), ("To", 2, 1), ("Flow", 2, 2)] := by kernel_rfl
  generalize (Tryd.prog.fieldsOf 55).toList = l at hf
  rcases l with _ | ⟨f0, _ | ⟨f1, _ | ⟨f2, _ | ⟨f3, l⟩⟩⟩⟩
  · simp at hf
  · simp at hf
  · simp at hf
  · simp only [List.map_cons, List.map_nil, List.cons.injEq, Prod.mk.injEq, and_true] at hf
    obtain ⟨⟨n0, t0, o0⟩, ⟨n1, t1, o1⟩, ⟨n2, t2, o2⟩⟩ := hf
    have hu := Tryd.underlying2
    by_cases e0 : a = a' <;> by_cases e1 : b = b' <;> by_cases e2 : f = f' <;> simp [Op.eqFields, go_sem, n0, t0, o0, n1, t1, o1, n2, t2, o2, eqD, e0, e1, e2]
  · simp at hf
theorem guard_type : Tryd.prog.eqGuardType Tryd.prog.depth 55 = false := by kernel_rfl
@[go_sem high] theorem run_guard_ditch (op : BinOp) (x y : Operand) (xs ys : Array Value) (w : World) : (eqGuard op 55 x y (.agg xs) (.agg ys)).run Tryd.prog w = .ok () w := run_eqGuard_agg w op _ x y xs ys guard_type
def sameAt (xs ys : List Int) (i : Nat) : Bool := eqD (dF xs i) (dT xs i) (dW xs i) (dF ys i) (dT ys i) (dW ys i)
theorem eqD_comm (a b f a' b' f' : Int) : eqD a b f a' b' f' = eqD a' b' f' a b f := by
  simp only [eqD, Bool.beq_comm]
def sameD (n m : Nat) (xs ys : List Int) : Bool := decide (n = m) && allN (sameAt xs ys) n
def sameN (J : Int) (n : Nat) (fl : List Int) (J' : Int) (n' : Nat) (fl' : List Int) : Bool := (J == J') && sameD n n' fl fl'
theorem sameD_len {n m : Nat} {xs ys : List Int} (h : ¬ n = m) : sameD n m xs ys = false := by simp [sameD, h]
theorem sameD_eq {n m : Nat} {xs ys : List Int} (h : n = m) : sameD n m xs ys = allN (sameAt xs ys) n := by simp [sameD, h]
theorem sameN_1 {J J' : Int} {n n' : Nat} {fl fl' : List Int} (h : (J == J') = false) : sameN J n fl J' n' fl' = false := by simp [sameN, h]
theorem sameN_2 {J J' : Int} {n n' : Nat} {fl fl' : List Int} (h : (J == J') = true) : sameN J n fl J' n' fl' = sameD n n' fl fl' := by simp [sameN, h]
theorem hmf : ∀ (fn : Fn) (first cap : Array Value) (w : World), (Instr.makeFunc fn first cap).run Tryd.prog w = .ok (.func fn first cap) w := fun _ _ _ _ => rfl

set_option maxHeartbeats 800000 in
theorem ditchOk_any (w : World) (J a b f : Int) (hJ : 2 ≤ J ∧ J ≤ 10) :
    Calls Tryd.prog 55 #[.int .i64 J, .agg #[.int .i64 a, .int .i64 b, .int .i64 f]] w fun e w' => e = .returned (.bool (ditOk J a b f)) ∧ Below w.heap.size w w' := by
  have j1 := hJ.1
  have j2 := hJ.2
  clear hJ
  cases k1 : inR a 0 (J - 1)
  · have H := Lib.hid (dit_1 (b := b) (f := f) k1)
    go_enter Tryd.func55, Tryd.ntmps55
    go_wp2_with ((go_at_call 49; refine (in_any _ _ _ _).mono ?_; rintro e w' ⟨rfl, rfl⟩))
    go_ret
    exact ⟨ret_bool H.out.symm, by repeat (first | exact Below.refl _ _ | assumption | apply bl_alloc | apply bl_drewN | apply Below.drew | (refine bl_set ?_ (by first | exact Nat.le_refl _ | (simp; done) | (simp; omega)) _) | (refine bl_trans ?_ (by assumption)))⟩
  · cases k2 : inR b 0 (J - 1)
    · have H := Lib.hid (dit_2 (a := a) (f := f) k2)
      go_enter Tryd.func55, Tryd.ntmps55
      go_wp2_with ((go_at_call 49; refine (in_any _ _ _ _).mono ?_; rintro e w' ⟨rfl, rfl⟩))
      go_ret
      exact ⟨ret_bool H.out.symm, by repeat (first | exact Below.refl _ _ | assumption | apply bl_alloc | apply bl_drewN | apply Below.drew | (refine bl_set ?_ (by first | exact Nat.le_refl _ | (simp; done) | (simp; omega)) _) | (refine bl_trans ?_ (by assumption)))⟩
    · cases k3 : (a != b)
      · have H := Lib.hid (dit_3 (J := J) (f := f) (show a = b by simpa using k3))
        go_enter Tryd.func55, Tryd.ntmps55
        go_wp2_with ((go_at_call 49; refine (in_any _ _ _ _).mono ?_; rintro e w' ⟨rfl, rfl⟩))
        go_ret
        exact ⟨ret_bool H.out.symm, by repeat (first | exact Below.refl _ _ | assumption | apply bl_alloc | apply bl_drewN | apply Below.drew | (refine bl_set ?_ (by first | exact Nat.le_refl _ | (simp; done) | (simp; omega)) _) | (refine bl_trans ?_ (by assumption)))⟩
      · have H := Lib.hid (dit_4 (f := f) k1 k2 (show ¬ a = b by simpa using k3))
        go_enter Tryd.func55, Tryd.ntmps55
        go_wp2_with ((go_at_call 49; refine (in_any _ _ _ _).mono ?_; rintro e w' ⟨rfl, rfl⟩))
        go_ret
        exact ⟨ret_bool H.out.symm, by repeat (first | exact Below.refl _ _ | assumption | apply bl_alloc | apply bl_drewN | apply Below.drew | (refine bl_set ?_ (by first | exact Nat.le_refl _ | (simp; done) | (simp; omega)) _) | (refine bl_trans ?_ (by assumption)))⟩
set_option maxHeartbeats 800000 in
theorem l04One_any (w : World) (J a b f : Int) (hJ : 2 ≤ J ∧ J ≤ 10) :
    Calls Tryd.prog 52 #[.agg #[.int .i64 a, .int .i64 b, .int .i64 f], .int .i64 J] w fun e w' => e = .returned (.bool (ditOk J a b f)) ∧ Below w.heap.size w w' := by
  have j1 := hJ.1
  have j2 := hJ.2
  clear hJ
  cases k1 : inR a 0 (J - 1)
  · have H := Lib.hid (dit_1 (b := b) (f := f) k1)
    go_enter Tryd.func52, Tryd.ntmps52
    go_wp2_with ((go_at_call 44; refine (l00In_any _ _ _ _).mono ?_; rintro e w' ⟨rfl, rfl⟩))
    go_ret
    exact ⟨ret_bool H.out.symm, by repeat (first | exact Below.refl _ _ | assumption | apply bl_alloc | apply bl_drewN | apply Below.drew | (refine bl_set ?_ (by first | exact Nat.le_refl _ | (simp; done) | (simp; omega)) _) | (refine bl_trans ?_ (by assumption)))⟩
  · cases k2 : inR b 0 (J - 1)
    · have H := Lib.hid (dit_2 (a := a) (f := f) k2)
      go_enter Tryd.func52, Tryd.ntmps52
      go_wp2_with ((go_at_call 44; refine (l00In_any _ _ _ _).mono ?_; rintro e w' ⟨rfl, rfl⟩))
      go_ret
      exact ⟨ret_bool H.out.symm, by repeat (first | exact Below.refl _ _ | assumption | apply bl_alloc | apply bl_drewN | apply Below.drew | (refine bl_set ?_ (by first | exact Nat.le_refl _ | (simp; done) | (simp; omega)) _) | (refine bl_trans ?_ (by assumption)))⟩
    · cases k3 : (a != b)
      · have H := Lib.hid (dit_3 (J := J) (f := f) (show a = b by simpa using k3))
        go_enter Tryd.func52, Tryd.ntmps52
        go_wp2_with ((go_at_call 44; refine (l00In_any _ _ _ _).mono ?_; rintro e w' ⟨rfl, rfl⟩))
        go_ret
        exact ⟨ret_bool H.out.symm, by repeat (first | exact Below.refl _ _ | assumption | apply bl_alloc | apply bl_drewN | apply Below.drew | (refine bl_set ?_ (by first | exact Nat.le_refl _ | (simp; done) | (simp; omega)) _) | (refine bl_trans ?_ (by assumption)))⟩
      · have H := Lib.hid (dit_4 (f := f) k1 k2 (show ¬ a = b by simpa using k3))
        go_enter Tryd.func52, Tryd.ntmps52
        go_wp2_with ((go_at_call 44; refine (l00In_any _ _ _ _).mono ?_; rintro e w' ⟨rfl, rfl⟩))
        go_ret
        exact ⟨ret_bool H.out.symm, by repeat (first | exact Below.refl _ _ | assumption | apply bl_alloc | apply bl_drewN | apply Below.drew | (refine bl_set ?_ (by first | exact Nat.le_refl _ | (simp; done) | (simp; omega)) _) | (refine bl_trans ?_ (by assumption)))⟩
set_option maxHeartbeats 800000 in
theorem validNet_1 (w : World) (p : Nat) (J a b f : Int) (hp0 : w.cell? ⟨p, 0, none⟩ = some (.int .i64 J)) (hpl : p < w.heap.size) (hJ : 2 ≤ J ∧ J ≤ 10) :
    Calls Tryd.prog 54 #[.agg #[.int .i64 a, .int .i64 b, .int .i64 f], .pointer (some ⟨p, 0, none⟩)] w fun e w' => e = .returned (.bool (ditOk J a b f)) ∧ Below w.heap.size w w' := by
  go_enter Tryd.func54, Tryd.ntmps54
  go_wp2_with (go_at_call 55; refine (ditchOk_any _ _ _ _ _ hJ).mono ?_; rintro e w1 ⟨rfl, hb1⟩)
  go_ret
  exact ⟨rfl, by repeat (first | exact Below.refl _ _ | assumption | apply bl_alloc | apply bl_drewN | apply Below.drew | (refine bl_set ?_ (by first | exact Nat.le_refl _ | (simp; done) | (simp; omega)) _) | (refine bl_trans ?_ (by assumption)))⟩
set_option maxHeartbeats 800000 in
theorem allDitch (w : World) (p : Nat) (J : Int) (A : Option Addr) (n c : Nat) (fl : List Int) (hp0 : w.cell? ⟨p, 0, none⟩ = some (.int .i64 J)) (hJ : 2 ≤ J ∧ J ≤ 10) (hA : RC w A (ints fl)) (lf : fl.length = n * 3) (hm : n ≤ 1048576) :
    Calls Tryd.prog 53 #[.slice A n c, .func (.func 54) #[] #[.pointer (some ⟨p, 0, none⟩)]] w fun e w' => e = .returned (.bool (allN (ditAt J fl) n)) ∧ Below w.heap.size w w' := by
  have HA := Lib.hid hA
  have HL := Lib.hid lf
  have hpl : p < w.heap.size := World.block_lt_of_cell? w _ hp0
  have HP := Lib.hid hp0
  clear hA lf hp0
  go_enter Tryd.func53, Tryd.ntmps53
  go_wp2
  go_loopg [9] n (fun m i wr => ∃ k, k ≤ n ∧ m = n - k ∧ i = .int .i64 (k : Int) ∧ Hid (allN (ditAt J fl) k = true) ∧ Below w.heap.size w wr)
  case atStart => exact ⟨0, Nat.zero_le _, by omega, rfl, Lib.hid rfl, by repeat (first | exact Below.refl _ _ | assumption | apply bl_alloc | apply bl_drewN | apply Below.drew | (refine bl_set ?_ (by first | exact Nat.le_refl _ | (simp; done) | (simp; omega)) _) | (refine bl_trans ?_ (by assumption)))⟩
  case round =>
    obtain ⟨k, hk, hgk, rfl, HT, hb⟩ := hrel
    have HGK := Lib.hid hgk
    clear hgk
    by_cases hlt : k < n
    · obtain ⟨b, off, rfl, hbl, hcell⟩ := HA.out (by rw [ints_len, HL.out]; omega)
      obtain ⟨q0, q1, q2⟩ := dit_cells hbl hcell HL.out hlt hb
      have hw := hb.size
      have g0 := (hb.cell (p := ⟨p, 0, none⟩) hpl).trans HP.out
      clear hcell
      cases hp : ditAt J fl k
      · have HN := Lib.hid (allN_no hlt hp)
        have hp' : ditOk J (dF fl k) (dT fl k) (dW fl k) = false := hp
        go_wp2_with (go_at_call 54; refine (validNet_1 _ p J _ _ _ (kc_alloc g0) (World.block_lt_of_cell? _ _ (kc_alloc g0)) hJ).mono ?_; rintro e w1 ⟨rfl, hb1⟩)
        go_ret
        exact ⟨ret_bool HN.out.symm, by repeat (first | exact Below.refl _ _ | assumption | apply bl_alloc | apply bl_drewN | apply Below.drew | (refine bl_set ?_ (by first | exact Nat.le_refl _ | (simp; done) | (simp; omega)) _) | (refine bl_trans ?_ (by assumption)))⟩
      · have HY := Lib.hid (allN_yes HT.out hp)
        have hp' : ditOk J (dF fl k) (dT fl k) (dW fl k) = true := hp
        go_wp2_with (go_at_call 54; refine (validNet_1 _ p J _ _ _ (kc_alloc g0) (World.block_lt_of_cell? _ _ (kc_alloc g0)) hJ).mono ?_; rintro e w1 ⟨rfl, hb1⟩)
        go_roundg (n - (k + 1))
        case measure => rw [HGK.out]; omega
        case rel => exact ⟨k + 1, by omega, rfl, by go_num, HY, by repeat (first | exact Below.refl _ _ | assumption | apply bl_alloc | apply bl_drewN | apply Below.drew | (refine bl_set ?_ (by first | exact Nat.le_refl _ | (simp; done) | (simp; omega)) _) | (refine bl_trans ?_ (by assumption)))⟩
    · obtain rfl : k = n := by omega
      go_wp2
      go_ret
      exact ⟨ret_bool HT.out.symm, hb⟩
set_option maxHeartbeats 800000 in
theorem implValidNet (w : World) (J : Int) (A : Option Addr) (n k : Nat) (fl : List Int) (hA : RC w A (ints fl)) (lf : fl.length = n * 3) (hm : n ≤ 1048576) :
    Calls Tryd.prog 32 #[.agg #[.int .i64 J, .slice A n k]] w fun e w' => e = .returned (.bool (netOk J n fl)) ∧ Below w.heap.size w w' := by
  have HA := Lib.hid hA
  have HL := Lib.hid lf
  have hmf := hmf
  clear hA lf
  cases k1 : inR J 2 10
  · have H := Lib.hid (net_1 (n := n) (fl := fl) k1)
    go_enter Tryd.func32, Tryd.ntmps32
    go_wp2_with ((go_at_call 49; refine (in_any _ _ _ _).mono ?_; rintro e w' ⟨rfl, rfl⟩))
    go_ret
    exact ⟨ret_bool H.out.symm, by repeat (first | exact Below.refl _ _ | assumption | apply bl_alloc | apply bl_drewN | apply Below.drew | (refine bl_set ?_ (by first | exact Nat.le_refl _ | (simp; done) | (simp; omega)) _) | (refine bl_trans ?_ (by assumption)))⟩
  · have JR := Lib.hid (inR_of k1)
    by_cases k2 : n ≤ 20
    · have H := Lib.hid (net_4 (fl := fl) k1 k2)
      go_enter Tryd.func32, Tryd.ntmps32
      go_wp2_with (first | (go_at_call 49; refine (in_any _ _ _ _).mono ?_; rintro e w' ⟨rfl, rfl⟩) | (go_at_call 53; refine (allDitch _ _ J _ _ _ _ (by simp [go_sem]) JR.out (HA.out.below (by repeat (first | exact Below.refl _ _ | assumption | apply bl_alloc | apply bl_drewN | apply Below.drew | (refine bl_set ?_ (by first | exact Nat.le_refl _ | (simp; done) | (simp; omega)) _) | (refine bl_trans ?_ (by assumption))))) HL.out hm).mono ?_; rintro e w1 ⟨rfl, hb1⟩))
      go_ret
      exact ⟨ret_bool H.out.symm, by repeat (first | exact Below.refl _ _ | assumption | apply bl_alloc | apply bl_drewN | apply Below.drew | (refine bl_set ?_ (by first | exact Nat.le_refl _ | (simp; done) | (simp; omega)) _) | (refine bl_trans ?_ (by assumption)))⟩
    · have H := Lib.hid (net_3 (J := J) (fl := fl) k2)
      go_enter Tryd.func32, Tryd.ntmps32
      go_wp2_with ((go_at_call 49; refine (in_any _ _ _ _).mono ?_; rintro e w' ⟨rfl, rfl⟩))
      go_ret
      exact ⟨ret_bool H.out.symm, by repeat (first | exact Below.refl _ _ | assumption | apply bl_alloc | apply bl_drewN | apply Below.drew | (refine bl_set ?_ (by first | exact Nat.le_refl _ | (simp; done) | (simp; omega)) _) | (refine bl_trans ?_ (by assumption)))⟩
set_option maxRecDepth 100000 in
set_option maxHeartbeats 1600000 in
theorem l04Ok_any (w : World) (p : Nat) (J : Int) (A : Option Addr) (n k : Nat) (fl : List Int) (hp0 : w.cell? ⟨p, 0, none⟩ = some (.int .i64 J)) (hp1 : w.cell? ⟨p, 1, none⟩ = some (.slice A n k)) (hA : RC w A (ints fl)) (lf : fl.length = n * 3) (hm : n ≤ 1048576) :
    Calls Tryd.prog 31 #[.pointer (some ⟨p, 0, none⟩)] w fun e w' => e = .returned (.bool (netOk J n fl)) ∧ Below w.heap.size w w' := by
  have HA := Lib.hid hA
  have HL := Lib.hid lf
  have hpl : p < w.heap.size := World.block_lt_of_cell? w _ hp0
  clear hA lf
  cases k1 : inR J 2 10
  · have H := Lib.hid (net_1 (n := n) (fl := fl) k1)
    go_enter Tryd.func31, Tryd.ntmps31
    go_wp2_with ((go_at_call 44; refine (l00In_any _ _ _ _).mono ?_; rintro e w' ⟨rfl, rfl⟩))
    go_ret
    exact ⟨ret_bool H.out.symm, by repeat (first | exact Below.refl _ _ | assumption | apply bl_alloc | apply bl_drewN | apply Below.drew | (refine bl_set ?_ (by first | exact Nat.le_refl _ | (simp; done) | (simp; omega)) _) | (refine bl_trans ?_ (by assumption)))⟩
  · have JR := Lib.hid (inR_of k1)
    have HP0 := Lib.hid hp0
    have HP1 := Lib.hid hp1
    go_enter Tryd.func31, Tryd.ntmps31
    go_wp2_with ((go_at_call 44; refine (l00In_any _ _ _ _).mono ?_; rintro e w' ⟨rfl, rfl⟩))
    clear hp0 hp1
    go_loopg [3] n (fun m i wr => ∃ k, k ≤ n ∧ m = n - k ∧ i = .int .i64 (k : Int) ∧ Hid (allN (ditAt J fl) k = true) ∧ Below w.heap.size w wr)
    case atStart => exact ⟨0, Nat.zero_le _, by omega, rfl, Lib.hid rfl, by repeat (first | exact Below.refl _ _ | assumption | apply bl_alloc | apply bl_drewN | apply Below.drew | (refine bl_set ?_ (by first | exact Nat.le_refl _ | (simp; done) | (simp; omega)) _) | (refine bl_trans ?_ (by assumption)))⟩
    case round =>
      obtain ⟨j, hj, hgj, rfl, HT, hb⟩ := hrel
      have HGK := Lib.hid hgj
      clear hgj
      have g0 := (hb.cell (p := ⟨p, 0, none⟩) hpl).trans HP0.out
      have g1 := (hb.cell (p := ⟨p, 1, none⟩) hpl).trans HP1.out
      by_cases hlt : j < n
      · obtain ⟨b, off, rfl, hbl, hcell⟩ := HA.out (by rw [ints_len, HL.out]; omega)
        obtain ⟨q0, q1, q2⟩ := dit_cells hbl hcell HL.out hlt hb
        clear hcell
        cases hp : ditAt J fl j
        · have HN := Lib.hid (net_2 (J := J) (fl := fl) (n := n) (allN_no hlt hp))
          have hp' : ditOk J (dF fl j) (dT fl j) (dW fl j) = false := hp
          go_wp2
          go_still_tail 11, (by kernel_rfl)
          change wpList _ _ _ _ _ wr.drew
          go_wp2_with (go_at_call 52; refine (l04One_any _ J _ _ _ JR.out).mono ?_; rintro e w1 ⟨rfl, hb1⟩)
          go_ret
          exact ⟨ret_bool HN.out.symm, by repeat (first | exact Below.refl _ _ | assumption | apply bl_alloc | apply bl_drewN | apply Below.drew | (refine bl_set ?_ (by first | exact Nat.le_refl _ | (simp; done) | (simp; omega)) _) | (refine bl_trans ?_ (by assumption)))⟩
        · have HY := Lib.hid (allN_yes HT.out hp)
          have hp' : ditOk J (dF fl j) (dT fl j) (dW fl j) = true := hp
          go_wp2
          go_still_tail 11, (by kernel_rfl)
          change wpList _ _ _ _ _ wr.drew
          go_wp2_with (go_at_call 52; refine (l04One_any _ J _ _ _ JR.out).mono ?_; rintro e w1 ⟨rfl, hb1⟩)
          go_roundg (n - (j + 1))
          case measure => rw [HGK.out]; omega
          case rel => exact ⟨j + 1, by omega, rfl, by go_num, HY, by repeat (first | exact Below.refl _ _ | assumption | apply bl_alloc | apply bl_drewN | apply Below.drew | (refine bl_set ?_ (by first | exact Nat.le_refl _ | (simp; done) | (simp; omega)) _) | (refine bl_trans ?_ (by assumption)))⟩
      · obtain rfl : j = n := by omega
        by_cases k2 : j ≤ 20
        · have H := Lib.hid (net_5 (fl := fl) k1 HT.out k2)
          go_wp2
          go_ret
          exact ⟨ret_bool (by rw [H.out]; exact decide_eq_true (by omega)), hb⟩
        · have H := Lib.hid (net_3 (J := J) (fl := fl) k2)
          go_wp2
          go_ret
          exact ⟨ret_bool (by rw [H.out]; exact decide_eq_false (by omega)), hb⟩
end Go.Proofs.YtcjfdfjimcapkaaDoor
