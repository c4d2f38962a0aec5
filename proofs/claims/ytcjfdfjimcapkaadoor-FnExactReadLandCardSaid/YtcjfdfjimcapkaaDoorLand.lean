/-
  Contracts on lands: copies, comparisons and marks of the statements, validity, heights, volumes, cells. They hold for every land of at most 1048576 heights.
-/
import Derived.Test.YtcjfdfjimcapkaaDoorHelp
import Derived.Test.YtcjfdfjimcapkaaDoorLandPlain
import Derived.Test.YtcjfdfjimcapkaaDoorBasic
namespace Go.Proofs.YtcjfdfjimcapkaaDoor
set_option linter.unusedVariables false
open Go.RowKit
/-- a call that makes a new land; with a code; with a number and a code -/
def NewLand (r c : Int) (hs : List Int) (w : World) (e : Ending) (w' : World) : Prop :=
  ∃ A k, e = .returned (.agg #[.int .i64 r, .int .i64 c, .slice A hs.length k]) ∧ OwnC w.heap.size w'.heap.size w' A (ints hs) ∧ Below w.heap.size w w'
def NewLandC (r c : Int) (hs : List Int) (code : Int) (w : World) (e : Ending) (w' : World) : Prop :=
  ∃ A k, e = .returned (.tuple #[.agg #[.int .i64 r, .int .i64 c, .slice A hs.length k], .int .i64 code]) ∧ OwnC w.heap.size w'.heap.size w' A (ints hs) ∧ Below w.heap.size w w'
def NewLandCC (r c : Int) (hs : List Int) (x code : Int) (w : World) (e : Ending) (w' : World) : Prop :=
  ∃ A k, e = .returned (.tuple #[.agg #[.int .i64 r, .int .i64 c, .slice A hs.length k], .int .i64 x, .int .i64 code]) ∧ OwnC w.heap.size w'.heap.size w' A (ints hs) ∧ Below w.heap.size w w'
/-- only the block where a slice of n cells begins has been written, and new blocks have come -/
structure OnlyG (n : Nat) (A : Option Addr) (w w' : World) : Prop where
  os : w'.os = w.os
  tape : w'.tape = w.tape
  output : w'.output = w.output
  size : w.heap.size ≤ w'.heap.size
  block : ∀ j, j < w.heap.size → (0 < n → ∀ g, A = some ⟨g, 0, none⟩ → j ≠ g) → w'.heap[j]? = w.heap[j]?
theorem Only.g {n : Nat} {A : Option Addr} {w w' : World} (h : Only n A w w') : OnlyG n A w w' := ⟨h.os, h.tape, h.output, Nat.le_of_eq h.size.symm, fun j _ => h.block j⟩
theorem OnlyG.pre {n : Nat} {A : Option Addr} {w W w' : World} (hb : Below w.heap.size w W) (h : OnlyG n A W w') : OnlyG n A w w' :=
  ⟨h.os.trans hb.os, h.tape.trans hb.tape, h.output.trans hb.output, Nat.le_trans hb.size h.size, fun j hj hne => (h.block j (Nat.lt_of_lt_of_le hj hb.size) hne).trans (hb.block j hj)⟩
theorem OnlyG.below {n B E : Nat} {A : Option Addr} {w w' : World} {cs : List Value} (h : OnlyG n A w w') (ho : OwnC B E w A cs) (hn : n ≤ cs.length) (hB : B ≤ w.heap.size) : Below B w w' :=
  ⟨h.os, h.tape, h.output, h.size, fun j hj => h.block j (by omega) fun h0 g hA e => by
    obtain ⟨g', _, _, hA', h1, _⟩ := ho (by omega)
    rw [hA] at hA'
    cases hA'
    omega⟩
theorem OwnC.onlyG {n B E B' E' : Nat} {A A' : Option Addr} {w w' : World} {cs cs' : List Value} (h : OwnC B E w A cs) (ho : OnlyG n A' w w') (h' : OwnC B' E' w A' cs') (hn : n ≤ cs'.length)
    (hd : E ≤ B' ∨ E' ≤ B) : OwnC B E w' A cs := fun h0 => by
  obtain ⟨g, cur, T, rfl, h1, h2, hg, hc⟩ := h h0
  refine ⟨g, cur, T, rfl, h1, h2, ?_, hc⟩
  rw [ho.block g (Array.getElem?_eq_some_iff.1 hg).1 fun hn0 g' hA e => ?_]
  · exact hg
  · obtain ⟨g2, _, _, hA', h3, h4, _⟩ := h' (by omega)
    rw [hA] at hA'
    cases hA'
    omega
theorem keep_only {n B E g : Nat} {A : Option Addr} {w w' : World} {cs : List Value} {o : Obj} (h : w.heap[g]? = some o) (ho : OnlyG n A w w') (h' : OwnC B E w A cs) (hn : n ≤ cs.length) (hd : g < B ∨ E ≤ g) : w'.heap[g]? = some o := by
  rw [ho.block g (Array.getElem?_eq_some_iff.1 h).1 fun hn0 g' hA e => ?_]
  · exact h
  · obtain ⟨g2, _, _, hA', h3, h4, _⟩ := h' (by omega)
    rw [hA] at hA'
    cases hA'
    omega
def MarkedG (n : Nat) (start : Int) (A : Option Addr) (B E : Nat) (w : World) (e : Ending) (w' : World) : Prop :=
  e = .returned (.int .i64 (start + (n : Int))) ∧ OnlyG n A w w' ∧ OwnC B E w' A (ints (marks start n))

theorem size_any (w : World) (A : Option Addr) (n c : Nat) : Calls Tryd.prog 39 #[.slice A n c] w fun e w' => e = .returned (.int .i64 (n : Int)) ∧ w = w' := by
  go_enter Tryd.func39, Tryd.ntmps39
  go_wp2
  go_ret
  exact ⟨rfl, rfl⟩
set_option maxHeartbeats 800000 in
theorem eqLand_any (w : World) (r c : Int) (A A' : Option Addr) (k k' : Nat) (hs : List Int) (hA : RC w A (ints hs)) (hA' : RC w A' (ints hs)) (hm : hs.length ≤ 1048576) :
    Calls Tryd.prog 18 #[.agg #[.int .i64 r, .int .i64 c, .slice A hs.length k], .agg #[.int .i64 r, .int .i64 c, .slice A' hs.length k']] w fun e w' => e = .returned (.bool true) ∧ Below w.heap.size w w' := by
  have HA := Lib.hid hA
  have HB := Lib.hid hA'
  clear hA hA'
  go_enter Tryd.func18, Tryd.ntmps18
  go_wp2_with (go_at_call 27; refine (eqInts _ _ _ _ _ _ (HA.out.below (by repeat (first | exact Below.refl _ _ | assumption | apply bl_alloc | apply bl_drewN | apply Below.drew | (refine bl_set ?_ (by first | exact Nat.le_refl _ | (simp; done) | (simp; omega)) _) | (refine bl_trans ?_ (by assumption))))) (HB.out.below (by repeat (first | exact Below.refl _ _ | assumption | apply bl_alloc | apply bl_drewN | apply Below.drew | (refine bl_set ?_ (by first | exact Nat.le_refl _ | (simp; done) | (simp; omega)) _) | (refine bl_trans ?_ (by assumption))))) hm).mono ?_; rintro e w' ⟨rfl, d, rfl⟩)
  go_ret
  exact ⟨rfl, by repeat (first | exact Below.refl _ _ | assumption | apply bl_alloc | apply bl_drewN | apply Below.drew | (refine bl_set ?_ (by first | exact Nat.le_refl _ | (simp; done) | (simp; omega)) _) | (refine bl_trans ?_ (by assumption)))⟩
set_option maxHeartbeats 800000 in
theorem markLand_any (w : World) (r c : Int) (A : Option Addr) (k B E : Nat) (hs : List Int) (start : Int) (cs : List Value) (hA : OwnC B E w A cs) (hn : cs.length = hs.length) (hm : hs.length ≤ 1048576) (hs0 : 0 ≤ start) (hs' : start ≤ 1099511627776) :
    Calls Tryd.prog 19 #[.agg #[.int .i64 r, .int .i64 c, .slice A hs.length k], .int .i64 start] w (MarkedG hs.length start A B E w) := by
  have HA := Lib.hid hA
  have HN := Lib.hid hn
  clear hA hn
  go_enter Tryd.func19, Tryd.ntmps19
  go_wp2_with (go_at_call 28; refine (markInts _ _ _ _ _ _ _ _ (HA.out.alloc _) HN.out hm hs0 hs').mono ?_; rintro e w1 ⟨rfl, q, m⟩)
  go_ret
  exact ⟨rfl, q.g.pre (by repeat (first | exact Below.refl _ _ | assumption | apply bl_alloc | apply bl_drewN | apply Below.drew | (refine bl_set ?_ (by first | exact Nat.le_refl _ | (simp; done) | (simp; omega)) _) | (refine bl_trans ?_ (by assumption)))), m⟩
set_option maxHeartbeats 800000 in
theorem heldLand_any (w : World) (r c : Int) (A : Option Addr) (k : Nat) (hs : List Int) (start : Int) (hA : RC w A (ints (marks start hs.length))) (hm : hs.length ≤ 1048576) (hs0 : 0 ≤ start) (hs' : start ≤ 1099511627776) :
    Calls Tryd.prog 20 #[.agg #[.int .i64 r, .int .i64 c, .slice A hs.length k], .int .i64 start] w fun e w' => e = .returned (.int .i64 (start + (hs.length : Int))) ∧ Below w.heap.size w w' := by
  have HA := Lib.hid hA
  clear hA
  go_enter Tryd.func20, Tryd.ntmps20
  go_wp2_with (go_at_call 29; refine (heldInts _ _ _ _ _ (HA.out.below (by repeat (first | exact Below.refl _ _ | assumption | apply bl_alloc | apply bl_drewN | apply Below.drew | (refine bl_set ?_ (by first | exact Nat.le_refl _ | (simp; done) | (simp; omega)) _) | (refine bl_trans ?_ (by assumption))))) hm hs0 hs').mono ?_; rintro e w' ⟨rfl, rfl⟩)
  go_ret
  exact ⟨rfl, by repeat (first | exact Below.refl _ _ | assumption | apply bl_alloc | apply bl_drewN | apply Below.drew | (refine bl_set ?_ (by first | exact Nat.le_refl _ | (simp; done) | (simp; omega)) _) | (refine bl_trans ?_ (by assumption)))⟩
theorem in_lit {n lo hi : Int} {b : Bool} (h : inR n lo hi = b) (w : World) : Calls Tryd.prog 49 #[.int .i64 n, .int .i64 lo, .int .i64 hi] w fun e w' => e = .returned (.bool b) ∧ w = w' :=
  (in_any n lo hi w).mono fun _ _ ⟨he, hw⟩ => ⟨he.trans (ret_bool h), hw⟩
theorem l00In_lit {n lo hi : Int} {b : Bool} (h : inR n lo hi = b) (w : World) : Calls Tryd.prog 44 #[.int .i64 n, .int .i64 lo, .int .i64 hi] w fun e w' => e = .returned (.bool b) ∧ w = w' :=
  (l00In_any n lo hi w).mono fun _ _ ⟨he, hw⟩ => ⟨he.trans (ret_bool h), hw⟩
set_option maxHeartbeats 1600000 in
theorem l03Ok_any (w : World) (p : Nat) (r c : Int) (A : Option Addr) (k : Nat) (hs : List Int) (hp0 : w.cell? ⟨p, 0, none⟩ = some (.int .i64 r)) (hp1 : w.cell? ⟨p, 1, none⟩ = some (.int .i64 c)) (hp2 : w.cell? ⟨p, 2, none⟩ = some (.slice A hs.length k)) (hA : RC w A (ints hs)) (hm : hs.length ≤ 1048576) :
    Calls Tryd.prog 37 #[.pointer (some ⟨p, 0, none⟩)] w fun e w' => e = .returned (.bool (landOk r c hs)) ∧ ∃ d, w' = w.drewN d := by
  have HA := Lib.hid hA
  clear hA
  cases k1 : inR r 1 12
  · have H := Lib.hid (land_no1 (c := c) (hs := hs) k1)
    go_enter Tryd.func37, Tryd.ntmps37
    go_wp2
    go_quiet (((go_at_call 44; first | with_reducible exact quiet_eq (l00In_any _ _ _ _) | with_reducible exact quiet_add_eq (l00In_any _ _ _ _))))
    go_wp2
    go_ret
    exact ⟨ret_bool H.out.symm, _, rfl⟩
  · cases k2 : inR c 1 12
    · have H := Lib.hid (land_no2 (r := r) (hs := hs) k2)
      go_enter Tryd.func37, Tryd.ntmps37
      go_wp2
      go_quiet (((go_at_call 44; first | with_reducible exact quiet_eq (l00In_any _ _ _ _) | with_reducible exact quiet_add_eq (l00In_any _ _ _ _))))
      go_wp2
      go_ret
      exact ⟨ret_bool H.out.symm, _, rfl⟩
    · have a1 := inR_of k1
      have a2 := inR_of k2
      have a3 := mul_bd a1 a2
      cases k3 : ((hs.length : Int) == r * c)
      · have H := Lib.hid (land_no3 k3)
        have k3' : ((hs.length : Int) != r * c) = true := by simp [bne, k3]
        go_enter Tryd.func37, Tryd.ntmps37
        go_wp2
        go_quiet (((go_at_call 44; first | with_reducible exact quiet_eq (l00In_any _ _ _ _) | with_reducible exact quiet_add_eq (l00In_any _ _ _ _))))
        go_wp2
        go_ret
        exact ⟨ret_bool H.out.symm, _, rfl⟩
      · have HL := Lib.hid (land_last k1 k2 k3)
        have k3' : ((hs.length : Int) != r * c) = false := by simp [bne, k3]
        go_enter Tryd.func37, Tryd.ntmps37
        go_wp2
        go_quiet (((go_at_call 44; first | with_reducible exact quiet_eq (l00In_any _ _ _ _) | with_reducible exact quiet_add_eq (l00In_any _ _ _ _))))
        go_wp2
        clear k1 k2 k3 k3'
        go_loopg [3] hs.length (fun m i wr => ∃ j, j ≤ hs.length ∧ m = hs.length - j ∧ i = .int .i64 (j : Int) ∧ Hid (allTo lvl hs j = true) ∧ ∃ d, wr = w.drewN d)
        case atStart => exact ⟨0, Nat.zero_le _, by omega, rfl, Lib.hid rfl, _, rfl⟩
        case round =>
          obtain ⟨j, hj, hgj, rfl, HT, d, rfl⟩ := hrel
          have HGK := Lib.hid hgj
          clear hgj
          by_cases hlt : j < hs.length
          · obtain ⟨b, off, rfl, hbl, hcell⟩ := HA.out (by rw [ints_len]; omega)
            have h1 := hcell j (by rw [ints_len]; exact hlt)
            rw [ints_get hs j hlt] at h1
            clear hcell
            cases hq : lvl (gt hs j)
            · have HN := Lib.hid (allTo_no hlt hq)
              go_wp2_with (go_at_call 57; refine (l02Level_any _ _).mono ?_; rintro e w' ⟨rfl, rfl⟩)
              go_ret
              exact ⟨ret_bool (by rw [HL.out, HN.out]), _, rfl⟩
            · have HY := Lib.hid (allTo_yes HT.out hq)
              go_wp2_with (go_at_call 57; refine (l02Level_any _ _).mono ?_; rintro e w' ⟨rfl, rfl⟩)
              go_roundg (hs.length - (j + 1))
              case measure => rw [HGK.out]; omega
              case rel => exact ⟨j + 1, by omega, rfl, by go_num, HY, _, rfl⟩
          · obtain rfl : j = hs.length := by omega
            go_wp2
            go_ret
            exact ⟨ret_bool (by rw [HL.out, HT.out]), _, rfl⟩
set_option maxHeartbeats 1600000 in
theorem implValidLand (w : World) (r c : Int) (A : Option Addr) (k : Nat) (hs : List Int) (hA : RC w A (ints hs)) (hm : hs.length ≤ 1048576) :
    Calls Tryd.prog 40 #[.agg #[.int .i64 r, .int .i64 c, .slice A hs.length k]] w fun e w' => e = .returned (.bool (landOk r c hs)) ∧ Below w.heap.size w w' := by
  have HA := Lib.hid hA
  clear hA
  cases k1 : inR r 1 12
  · have H := Lib.hid (land_no1 (c := c) (hs := hs) k1)
    go_enter Tryd.func40, Tryd.ntmps40
    go_wp2
    go_quiet ((first | (go_at_call 49; first | with_reducible exact quiet_eq (in_lit k1 _) | with_reducible exact quiet_add_eq (in_lit k1 _) | with_reducible exact quiet_eq (in_lit k2 _) | with_reducible exact quiet_add_eq (in_lit k2 _)) | (go_at_call 39; first | with_reducible exact quiet_eq (size_any _ _ _ _) | with_reducible exact quiet_add_eq (size_any _ _ _ _)) | (go_at_call 61; first | with_reducible exact quiet_eq (areLevels_any _ _ _ _ ((HA.out.alloc _).drewN _) hm) | with_reducible exact quiet_add_eq (areLevels_any _ _ _ _ ((HA.out.alloc _).drewN _) hm))))
    go_wp2
    go_ret
    exact ⟨ret_bool H.out.symm, by repeat (first | exact Below.refl _ _ | assumption | apply bl_alloc | apply bl_drewN | apply Below.drew | (refine bl_set ?_ (by first | exact Nat.le_refl _ | (simp; done) | (simp; omega)) _) | (refine bl_trans ?_ (by assumption)))⟩
  · cases k2 : inR c 1 12
    · have H := Lib.hid (land_no2 (r := r) (hs := hs) k2)
      go_enter Tryd.func40, Tryd.ntmps40
      go_wp2
      go_quiet ((first | (go_at_call 49; first | with_reducible exact quiet_eq (in_lit k1 _) | with_reducible exact quiet_add_eq (in_lit k1 _) | with_reducible exact quiet_eq (in_lit k2 _) | with_reducible exact quiet_add_eq (in_lit k2 _)) | (go_at_call 39; first | with_reducible exact quiet_eq (size_any _ _ _ _) | with_reducible exact quiet_add_eq (size_any _ _ _ _)) | (go_at_call 61; first | with_reducible exact quiet_eq (areLevels_any _ _ _ _ ((HA.out.alloc _).drewN _) hm) | with_reducible exact quiet_add_eq (areLevels_any _ _ _ _ ((HA.out.alloc _).drewN _) hm))))
      go_wp2
      go_ret
      exact ⟨ret_bool H.out.symm, by repeat (first | exact Below.refl _ _ | assumption | apply bl_alloc | apply bl_drewN | apply Below.drew | (refine bl_set ?_ (by first | exact Nat.le_refl _ | (simp; done) | (simp; omega)) _) | (refine bl_trans ?_ (by assumption)))⟩
    · have a1 := inR_of k1
      have a2 := inR_of k2
      have a3 := mul_bd a1 a2
      cases k3 : ((hs.length : Int) == r * c)
      · have H := Lib.hid (land_no3 k3)
        go_enter Tryd.func40, Tryd.ntmps40
        go_wp2
        go_quiet ((first | (go_at_call 49; first | with_reducible exact quiet_eq (in_lit k1 _) | with_reducible exact quiet_add_eq (in_lit k1 _) | with_reducible exact quiet_eq (in_lit k2 _) | with_reducible exact quiet_add_eq (in_lit k2 _)) | (go_at_call 39; first | with_reducible exact quiet_eq (size_any _ _ _ _) | with_reducible exact quiet_add_eq (size_any _ _ _ _)) | (go_at_call 61; first | with_reducible exact quiet_eq (areLevels_any _ _ _ _ ((HA.out.alloc _).drewN _) hm) | with_reducible exact quiet_add_eq (areLevels_any _ _ _ _ ((HA.out.alloc _).drewN _) hm))))
        go_wp2
        go_ret
        exact ⟨ret_bool H.out.symm, by repeat (first | exact Below.refl _ _ | assumption | apply bl_alloc | apply bl_drewN | apply Below.drew | (refine bl_set ?_ (by first | exact Nat.le_refl _ | (simp; done) | (simp; omega)) _) | (refine bl_trans ?_ (by assumption)))⟩
      · have H := Lib.hid (land_last k1 k2 k3)
        go_enter Tryd.func40, Tryd.ntmps40
        go_wp2
        go_quiet ((first | (go_at_call 49; first | with_reducible exact quiet_eq (in_lit k1 _) | with_reducible exact quiet_add_eq (in_lit k1 _) | with_reducible exact quiet_eq (in_lit k2 _) | with_reducible exact quiet_add_eq (in_lit k2 _)) | (go_at_call 39; first | with_reducible exact quiet_eq (size_any _ _ _ _) | with_reducible exact quiet_add_eq (size_any _ _ _ _)) | (go_at_call 61; first | with_reducible exact quiet_eq (areLevels_any _ _ _ _ ((HA.out.alloc _).drewN _) hm) | with_reducible exact quiet_add_eq (areLevels_any _ _ _ _ ((HA.out.alloc _).drewN _) hm))))
        go_wp2
        go_ret
        exact ⟨ret_bool H.out.symm, by repeat (first | exact Below.refl _ _ | assumption | apply bl_alloc | apply bl_drewN | apply Below.drew | (refine bl_set ?_ (by first | exact Nat.le_refl _ | (simp; done) | (simp; omega)) _) | (refine bl_trans ?_ (by assumption)))⟩
end Go.Proofs.YtcjfdfjimcapkaaDoor
