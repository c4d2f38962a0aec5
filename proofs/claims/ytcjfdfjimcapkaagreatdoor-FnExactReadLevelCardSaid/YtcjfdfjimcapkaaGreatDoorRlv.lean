/-
  Contract on reading a level: the program's. It holds for every text of at most 1048576 bytes, where a table and two variables of the library read as they are laid.
-/
import Derived.Test.YtcjfdfjimcapkaaGreatDoorRep
import Derived.Test.YtcjfdfjimcapkaaGreatDoorBsr2
import Derived.Test.YtcjfdfjimcapkaaGreatDoorNumImpl
import Derived.Test.YtcjfdfjimcapkaaGreatDoorLvText
import Derived.Test.YtcjfdfjimcapkaaGreatDoorShelf3
import Derived.Test.YtcjfdfjimcapkaaGreatDoorRdy
import Derived.IntWalk
namespace Go.Proofs.YtcjfdfjimcapkaaGreatDoor
set_option linter.unusedVariables false
set_option linter.unusedSimpArgs false
open Go.RowKit

open Go.Lib
/-- the digits that the program reads, and the level -/
def rlD (l : List UInt8) : List UInt8 := Lib.trimLeftB (strk l) 48
def rlE (l : List UInt8) : List UInt8 := Lib.trimLeftB (Lib.trimPrefix (rlD l) [45]) 48
def rlN (l : List UInt8) : Int := if Lib.hasPrefix l [45] = true then -numV (rlE l) else numV (rlD l)
def rlV (l : List UInt8) : Int := if lvText (rlN l) = l then rlN l else 0
def rlB (l : List UInt8) : Bool := decide (lvText (rlN l) = l)
theorem rl_yes {l : List UInt8} (h : lvText (rlN l) = l) : rlV l = rlN l ∧ rlB l = true := by simp [rlV, rlB, h]
theorem rl_no {l : List UInt8} (h : ¬ lvText (rlN l) = l) : rlV l = 0 ∧ rlB l = false := by simp [rlV, rlB, h]
theorem rl_neg {l : List UInt8} (h : Lib.hasPrefix l [45] = true) : rlN l = -numV (rlE l) := by simp [rlN, h]
theorem rl_pos {l : List UInt8} (h : Lib.hasPrefix l [45] = false) : rlN l = numV (rlD l) := by simp [rlN, h]
theorem onT_block (w : World) : (w.alloc (.cells #[.string ⟨#[43]⟩, .string ⟨#[]⟩, .string ⟨#[46]⟩, .string ⟨#[]⟩, .string ⟨#[109]⟩, .string ⟨#[]⟩] 9)).heap[w.heap.size]? = some (.cells onT.toArray 9 (0, 0)) := heap_alloc_new _ _
theorem strk_size (l : List UInt8) : (strk l).length ≤ l.length := by have := strk_len l; omega
theorem tl_len (l : List UInt8) (c : UInt8) : (Lib.trimLeftB l c).length ≤ l.length := (List.dropWhile_suffix _).length_le
theorem rlD_len (l : List UInt8) : (rlD l).length ≤ l.length := Nat.le_trans (tl_len _ _) (strk_size l)
theorem rlE_len (l : List UInt8) : (rlE l).length ≤ l.length := by
  refine Nat.le_trans (tl_len _ _) (Nat.le_trans ?_ (rlD_len l))
  rw [trim_minus, tailD]
  split <;> simp
set_option maxRecDepth 100000 in
set_option maxHeartbeats 1600000 in
theorem implReadLevel (w : World) (l : List UInt8) (B : Nat) (t1 t2 : TypeId) (p1 p2 : Value) (hm : l.length ≤ 1048576) (hR : Rdy B t1 t2 p1 p2 w) :
    Calls Tryz.prog 5 #[.string ⟨l.toArray⟩] w fun e w' => e = .returned (.tuple #[.int .i64 (rlV l), .bool (rlB l)]) ∧ Below w.heap.size w w' := by
  have HRD := Lib.hid hR
  have HM := Lib.hid (show (⟨l.toArray⟩ : ByteArray).size ≤ 1048576 by simpa [ByteArray.size] using hm)
  clear hR
  cases hp : Lib.hasPrefix l [45]
  · have HPX := Lib.hid (fun W : World => (by have h := Tryz.strings_HasPrefix ⟨l.toArray⟩ ⟨#[45]⟩ W; rw [show Lib.hasPrefix (⟨l.toArray⟩ : ByteArray).data.toList (⟨#[45]⟩ : ByteArray).data.toList = false from hp] at h; exact h : Calls Tryz.prog 15 #[.string ⟨l.toArray⟩, .string ⟨#[45]⟩] W fun e w' => e = .returned (.bool false) ∧ w' = W))
    have HN := Lib.hid (rl_pos hp)
    obtain ⟨v, hv⟩ : ∃ v, numV (rlD l) = v := ⟨_, rfl⟩
    have vb := numV_bd (rlD l)
    rw [hv] at vb
    have HV := Lib.hid hv
    have HDL := Lib.hid (rlD_len l)
    have HDEC := Lib.hid (fun (W : World) (h : Rdy B t1 t2 p1 p2 W) => (by
      have h1 := implReadDecimal W ⟨(rlD l).toArray⟩ B (Nat.le_trans (show (⟨(rlD l).toArray⟩ : ByteArray).size ≤ l.length by simpa [ByteArray.size] using HDL.out) hm) h.hb h.pow t1 t2 p1 p2 h.syn h.ran
      rw [show (⟨(rlD l).toArray⟩ : ByteArray).data.toList = rlD l from rfl, hv] at h1
      exact h1 : Calls Tryz.prog 17 #[.string ⟨(rlD l).toArray⟩] W fun e w' => e = .returned (.tuple #[.int .i64 v, .bool (numB (rlD l))]) ∧ Below W.heap.size W w'))
    have q1 := IntWalk.i64_in (v) (by omega)
    have HX := Lib.hid (show rlN l = v by rw [HN.out, HV.out])
    clear hv hp
    by_cases ht : lvText (v) = l
    · have H := Lib.hid (rl_yes (show lvText (rlN l) = l by rw [HX.out]; exact ht))
      have HLV := Lib.hid (fun (W : World) (h : Rdy B t1 t2 p1 p2 W) => (by
        have h1 := implLevelText W (v) B h.hb h.pow
        rw [ht] at h1
        exact h1 : Calls Tryz.prog 18 #[.int .i64 (v)] W fun e w' => e = .returned (.string ⟨l.toArray⟩) ∧ Below W.heap.size W w'))
      clear ht
      go_enter Tryz.func5, Tryz.ntmps5
      go_wp2_with (first | (go_at_call 13; refine (new_any _ w.heap.size (onT_block w)).mono ?_; rintro e w1 ⟨b, A, rfl, hb0, hA0, hR, hb1⟩; have hbw1 : Below w.heap.size w w1 := (by repeat (first | exact Below.refl _ _ | assumption | apply bl_alloc | apply bl_drewN | apply Below.drew | (refine bl_set ?_ (by first | exact Nat.le_refl _ | (simp; done) | (simp; omega)) _) | (refine bl_trans ?_ (by assumption)))); have hb0' : w.heap.size ≤ b := (by have h9 := hb0; simp at h9; omega)) | (go_at_call 14; refine (replace_any w _ b A ⟨l.toArray⟩ HM.out hR hbw1 hb0' (fun W p G c hT => bsr_any W p G c _ HM.out hT)).mono ?_; rintro e w2 ⟨rfl, hb2⟩) | (go_at_call 12; refine (Tryz.strings_TrimLeft_one _ 48 (by decide) _).mono ?_; rintro e w' ⟨rfl, rfl⟩) | (go_at_call 15; refine (HPX.out _).mono ?_; rintro e w' ⟨rfl, rfl⟩) | (go_at_call 17; refine (HDEC.out _ (HRD.out.below (by repeat (first | exact Below.refl _ _ | assumption | apply bl_alloc | apply bl_drewN | apply Below.drew | (refine bl_set ?_ (by first | exact Nat.le_refl _ | (simp; done) | (simp; omega)) _) | (refine bl_trans ?_ (by assumption)))))).mono ?_; rintro e w3 ⟨rfl, hb3⟩; have hbw3 : Below w.heap.size w w3 := (by repeat (first | exact Below.refl _ _ | assumption | apply bl_alloc | apply bl_drewN | apply Below.drew | (refine bl_set ?_ (by first | exact Nat.le_refl _ | (simp; done) | (simp; omega)) _) | (refine bl_trans ?_ (by assumption))))) | (go_at_call 18; refine (HLV.out _ (HRD.out.below (by repeat (first | exact Below.refl _ _ | assumption | apply bl_alloc | apply bl_drewN | apply Below.drew | (refine bl_set ?_ (by first | exact Nat.le_refl _ | (simp; done) | (simp; omega)) _) | (refine bl_trans ?_ (by assumption)))))).mono ?_; rintro e w4 ⟨rfl, hb4⟩))
      go_ret2
      rw [H.out.1, H.out.2, HX.out]
      exact ⟨rfl, by repeat (first | exact Below.refl _ _ | assumption | apply bl_alloc | apply bl_drewN | apply Below.drew | (refine bl_set ?_ (by first | exact Nat.le_refl _ | (simp; done) | (simp; omega)) _) | (refine bl_trans ?_ (by assumption)))⟩
    · obtain ⟨tx, hx⟩ : ∃ tx, lvText (v) = tx := ⟨_, rfl⟩
      have H := Lib.hid (rl_no (show ¬ lvText (rlN l) = l by rw [HX.out]; exact ht))
      have HLV := Lib.hid (fun (W : World) (h : Rdy B t1 t2 p1 p2 W) => (by
        have h1 := implLevelText W (v) B h.hb h.pow
        rw [hx] at h1
        exact h1 : Calls Tryz.prog 18 #[.int .i64 (v)] W fun e w' => e = .returned (.string ⟨tx.toArray⟩) ∧ Below W.heap.size W w'))
      rw [hx] at ht
      have ht3 : (tx == l) = false := by simpa using ht
      clear hx ht
      go_enter Tryz.func5, Tryz.ntmps5
      go_wp2_with (first | (go_at_call 13; refine (new_any _ w.heap.size (onT_block w)).mono ?_; rintro e w1 ⟨b, A, rfl, hb0, hA0, hR, hb1⟩; have hbw1 : Below w.heap.size w w1 := (by repeat (first | exact Below.refl _ _ | assumption | apply bl_alloc | apply bl_drewN | apply Below.drew | (refine bl_set ?_ (by first | exact Nat.le_refl _ | (simp; done) | (simp; omega)) _) | (refine bl_trans ?_ (by assumption)))); have hb0' : w.heap.size ≤ b := (by have h9 := hb0; simp at h9; omega)) | (go_at_call 14; refine (replace_any w _ b A ⟨l.toArray⟩ HM.out hR hbw1 hb0' (fun W p G c hT => bsr_any W p G c _ HM.out hT)).mono ?_; rintro e w2 ⟨rfl, hb2⟩) | (go_at_call 12; refine (Tryz.strings_TrimLeft_one _ 48 (by decide) _).mono ?_; rintro e w' ⟨rfl, rfl⟩) | (go_at_call 15; refine (HPX.out _).mono ?_; rintro e w' ⟨rfl, rfl⟩) | (go_at_call 17; refine (HDEC.out _ (HRD.out.below (by repeat (first | exact Below.refl _ _ | assumption | apply bl_alloc | apply bl_drewN | apply Below.drew | (refine bl_set ?_ (by first | exact Nat.le_refl _ | (simp; done) | (simp; omega)) _) | (refine bl_trans ?_ (by assumption)))))).mono ?_; rintro e w3 ⟨rfl, hb3⟩; have hbw3 : Below w.heap.size w w3 := (by repeat (first | exact Below.refl _ _ | assumption | apply bl_alloc | apply bl_drewN | apply Below.drew | (refine bl_set ?_ (by first | exact Nat.le_refl _ | (simp; done) | (simp; omega)) _) | (refine bl_trans ?_ (by assumption))))) | (go_at_call 18; refine (HLV.out _ (HRD.out.below (by repeat (first | exact Below.refl _ _ | assumption | apply bl_alloc | apply bl_drewN | apply Below.drew | (refine bl_set ?_ (by first | exact Nat.le_refl _ | (simp; done) | (simp; omega)) _) | (refine bl_trans ?_ (by assumption)))))).mono ?_; rintro e w4 ⟨rfl, hb4⟩))
      go_ret2
      rw [H.out.1, H.out.2]
      exact ⟨rfl, by repeat (first | exact Below.refl _ _ | assumption | apply bl_alloc | apply bl_drewN | apply Below.drew | (refine bl_set ?_ (by first | exact Nat.le_refl _ | (simp; done) | (simp; omega)) _) | (refine bl_trans ?_ (by assumption)))⟩
  · have HPX := Lib.hid (fun W : World => (by have h := Tryz.strings_HasPrefix ⟨l.toArray⟩ ⟨#[45]⟩ W; rw [show Lib.hasPrefix (⟨l.toArray⟩ : ByteArray).data.toList (⟨#[45]⟩ : ByteArray).data.toList = true from hp] at h; exact h : Calls Tryz.prog 15 #[.string ⟨l.toArray⟩, .string ⟨#[45]⟩] W fun e w' => e = .returned (.bool true) ∧ w' = W))
    have HN := Lib.hid (rl_neg hp)
    obtain ⟨v, hv⟩ : ∃ v, numV (rlE l) = v := ⟨_, rfl⟩
    have vb := numV_bd (rlE l)
    rw [hv] at vb
    have HV := Lib.hid hv
    have HDL := Lib.hid (rlE_len l)
    have HDEC := Lib.hid (fun (W : World) (h : Rdy B t1 t2 p1 p2 W) => (by
      have h1 := implReadDecimal W ⟨(rlE l).toArray⟩ B (Nat.le_trans (show (⟨(rlE l).toArray⟩ : ByteArray).size ≤ l.length by simpa [ByteArray.size] using HDL.out) hm) h.hb h.pow t1 t2 p1 p2 h.syn h.ran
      rw [show (⟨(rlE l).toArray⟩ : ByteArray).data.toList = rlE l from rfl, hv] at h1
      exact h1 : Calls Tryz.prog 17 #[.string ⟨(rlE l).toArray⟩] W fun e w' => e = .returned (.tuple #[.int .i64 v, .bool (numB (rlE l))]) ∧ Below W.heap.size W w'))
    have q1 := IntWalk.i64_in (-v) (by omega)
    have HX := Lib.hid (show rlN l = -v by rw [HN.out, HV.out])
    clear hv hp
    by_cases ht : lvText (-v) = l
    · have H := Lib.hid (rl_yes (show lvText (rlN l) = l by rw [HX.out]; exact ht))
      have HLV := Lib.hid (fun (W : World) (h : Rdy B t1 t2 p1 p2 W) => (by
        have h1 := implLevelText W (-v) B h.hb h.pow
        rw [ht] at h1
        exact h1 : Calls Tryz.prog 18 #[.int .i64 (-v)] W fun e w' => e = .returned (.string ⟨l.toArray⟩) ∧ Below W.heap.size W w'))
      clear ht
      go_enter Tryz.func5, Tryz.ntmps5
      go_wp2_with (first | (go_at_call 13; refine (new_any _ w.heap.size (onT_block w)).mono ?_; rintro e w1 ⟨b, A, rfl, hb0, hA0, hR, hb1⟩; have hbw1 : Below w.heap.size w w1 := (by repeat (first | exact Below.refl _ _ | assumption | apply bl_alloc | apply bl_drewN | apply Below.drew | (refine bl_set ?_ (by first | exact Nat.le_refl _ | (simp; done) | (simp; omega)) _) | (refine bl_trans ?_ (by assumption)))); have hb0' : w.heap.size ≤ b := (by have h9 := hb0; simp at h9; omega)) | (go_at_call 14; refine (replace_any w _ b A ⟨l.toArray⟩ HM.out hR hbw1 hb0' (fun W p G c hT => bsr_any W p G c _ HM.out hT)).mono ?_; rintro e w2 ⟨rfl, hb2⟩) | (go_at_call 12; refine (Tryz.strings_TrimLeft_one _ 48 (by decide) _).mono ?_; rintro e w' ⟨rfl, rfl⟩) | (go_at_call 15; refine (HPX.out _).mono ?_; rintro e w' ⟨rfl, rfl⟩) | (go_at_call 16; refine (Tryz.strings_TrimPrefix _ ⟨#[45]⟩ _).mono ?_; rintro e w' ⟨rfl, rfl⟩) | (go_at_call 17; refine (HDEC.out _ (HRD.out.below (by repeat (first | exact Below.refl _ _ | assumption | apply bl_alloc | apply bl_drewN | apply Below.drew | (refine bl_set ?_ (by first | exact Nat.le_refl _ | (simp; done) | (simp; omega)) _) | (refine bl_trans ?_ (by assumption)))))).mono ?_; rintro e w3 ⟨rfl, hb3⟩; have hbw3 : Below w.heap.size w w3 := (by repeat (first | exact Below.refl _ _ | assumption | apply bl_alloc | apply bl_drewN | apply Below.drew | (refine bl_set ?_ (by first | exact Nat.le_refl _ | (simp; done) | (simp; omega)) _) | (refine bl_trans ?_ (by assumption))))) | (go_at_call 18; refine (HLV.out _ (HRD.out.below (by repeat (first | exact Below.refl _ _ | assumption | apply bl_alloc | apply bl_drewN | apply Below.drew | (refine bl_set ?_ (by first | exact Nat.le_refl _ | (simp; done) | (simp; omega)) _) | (refine bl_trans ?_ (by assumption)))))).mono ?_; rintro e w4 ⟨rfl, hb4⟩))
      go_ret2
      rw [H.out.1, H.out.2, HX.out]
      exact ⟨rfl, by repeat (first | exact Below.refl _ _ | assumption | apply bl_alloc | apply bl_drewN | apply Below.drew | (refine bl_set ?_ (by first | exact Nat.le_refl _ | (simp; done) | (simp; omega)) _) | (refine bl_trans ?_ (by assumption)))⟩
    · obtain ⟨tx, hx⟩ : ∃ tx, lvText (-v) = tx := ⟨_, rfl⟩
      have H := Lib.hid (rl_no (show ¬ lvText (rlN l) = l by rw [HX.out]; exact ht))
      have HLV := Lib.hid (fun (W : World) (h : Rdy B t1 t2 p1 p2 W) => (by
        have h1 := implLevelText W (-v) B h.hb h.pow
        rw [hx] at h1
        exact h1 : Calls Tryz.prog 18 #[.int .i64 (-v)] W fun e w' => e = .returned (.string ⟨tx.toArray⟩) ∧ Below W.heap.size W w'))
      rw [hx] at ht
      have ht3 : (tx == l) = false := by simpa using ht
      clear hx ht
      go_enter Tryz.func5, Tryz.ntmps5
      go_wp2_with (first | (go_at_call 13; refine (new_any _ w.heap.size (onT_block w)).mono ?_; rintro e w1 ⟨b, A, rfl, hb0, hA0, hR, hb1⟩; have hbw1 : Below w.heap.size w w1 := (by repeat (first | exact Below.refl _ _ | assumption | apply bl_alloc | apply bl_drewN | apply Below.drew | (refine bl_set ?_ (by first | exact Nat.le_refl _ | (simp; done) | (simp; omega)) _) | (refine bl_trans ?_ (by assumption)))); have hb0' : w.heap.size ≤ b := (by have h9 := hb0; simp at h9; omega)) | (go_at_call 14; refine (replace_any w _ b A ⟨l.toArray⟩ HM.out hR hbw1 hb0' (fun W p G c hT => bsr_any W p G c _ HM.out hT)).mono ?_; rintro e w2 ⟨rfl, hb2⟩) | (go_at_call 12; refine (Tryz.strings_TrimLeft_one _ 48 (by decide) _).mono ?_; rintro e w' ⟨rfl, rfl⟩) | (go_at_call 15; refine (HPX.out _).mono ?_; rintro e w' ⟨rfl, rfl⟩) | (go_at_call 16; refine (Tryz.strings_TrimPrefix _ ⟨#[45]⟩ _).mono ?_; rintro e w' ⟨rfl, rfl⟩) | (go_at_call 17; refine (HDEC.out _ (HRD.out.below (by repeat (first | exact Below.refl _ _ | assumption | apply bl_alloc | apply bl_drewN | apply Below.drew | (refine bl_set ?_ (by first | exact Nat.le_refl _ | (simp; done) | (simp; omega)) _) | (refine bl_trans ?_ (by assumption)))))).mono ?_; rintro e w3 ⟨rfl, hb3⟩; have hbw3 : Below w.heap.size w w3 := (by repeat (first | exact Below.refl _ _ | assumption | apply bl_alloc | apply bl_drewN | apply Below.drew | (refine bl_set ?_ (by first | exact Nat.le_refl _ | (simp; done) | (simp; omega)) _) | (refine bl_trans ?_ (by assumption))))) | (go_at_call 18; refine (HLV.out _ (HRD.out.below (by repeat (first | exact Below.refl _ _ | assumption | apply bl_alloc | apply bl_drewN | apply Below.drew | (refine bl_set ?_ (by first | exact Nat.le_refl _ | (simp; done) | (simp; omega)) _) | (refine bl_trans ?_ (by assumption)))))).mono ?_; rintro e w4 ⟨rfl, hb4⟩))
      go_ret2
      rw [H.out.1, H.out.2]
      exact ⟨rfl, by repeat (first | exact Below.refl _ _ | assumption | apply bl_alloc | apply bl_drewN | apply Below.drew | (refine bl_set ?_ (by first | exact Nat.le_refl _ | (simp; done) | (simp; omega)) _) | (refine bl_trans ?_ (by assumption)))⟩

end Go.Proofs.YtcjfdfjimcapkaaGreatDoor
