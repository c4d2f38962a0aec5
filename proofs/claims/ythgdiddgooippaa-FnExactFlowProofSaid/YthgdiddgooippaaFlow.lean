/-
  Contracts on nets: whether flows lead water, and whether a cut proves that they are greatest. They hold for lists of at most 1048576 numbers.
-/
import Derived.Test.YthgdiddgooippaaLead2
import Derived.Test.YthgdiddgooippaaTail
namespace Go.Proofs.Ythgdiddgooippaa
set_option linter.unusedVariables false
open Go.RowKit

set_option maxHeartbeats 1600000 in
theorem implIsFlow (w : World) (J s : Int) (A F : Option Addr) (n k c : Nat) (fl fs : List Int) (hA : RC w A (ints fl)) (lf : fl.length = n * 3) (hm : n ≤ 1048576) (hF : RC w F (ints fs)) (hmf : fs.length ≤ 1048576) :
    Calls Try.prog 30 #[.agg #[.int .i64 J, .slice A n k], .int .i64 s, .slice F fs.length c] w fun e w' => e = .returned (.tuple #[.bool (ifB J n fl fs s), .int .i64 (ifC J n fl fs s)]) ∧ Below w.heap.size w w' := by
  have HA := Lib.hid hA
  have HL := Lib.hid lf
  have HF := Lib.hid hF
  clear hA lf hF
  cases k1 : netOk J n fl
  · have H := Lib.hid (if_1 (fs := fs) (s := s) k1)
    have hc := nc_1 (s := s) k1
    go_enter Try.func30, Try.ntmps30
    go_wp2_with ((go_at_call 17; refine (implValidNet _ _ _ _ _ _ (HA.out.below (by repeat (first | exact Below.refl _ _ | assumption | apply bl_alloc | apply bl_drewN | apply Below.drew | (refine bl_set ?_ (by first | exact Nat.le_refl _ | (simp; done) | (simp; omega)) _) | (refine bl_trans ?_ (by assumption))))) HL.out hm).mono ?_; rintro e w1 ⟨rfl, hb1⟩; have kx : w1.heap[w.heap.size]? = some (.cells #[.int .i64 J, .slice A n k] 29 (0, 0)) := keep_blk (hb := hb1) (h := by first | exact kx | exact heap_alloc_new _ _); obtain ⟨x0, x1, xl⟩ := row_two kx))
    go_ret2
    rw [H.out.1, H.out.2]
    exact ⟨rfl, by repeat (first | exact Below.refl _ _ | assumption | apply bl_alloc | apply bl_drewN | apply Below.drew | (refine bl_set ?_ (by first | exact Nat.le_refl _ | (simp; done) | (simp; omega)) _) | (refine bl_trans ?_ (by assumption)))⟩
  · have N := Lib.hid (netOk_of k1)
    obtain ⟨jn, rfl⟩ : ∃ jn : Nat, J = (jn : Int) := ⟨J.toNat, by have := N.out.1; omega⟩
    have JR := Lib.hid N.out.1
    have jl : 2 ≤ jn := by have := JR.out; omega
    have jh : jn ≤ 10 := by have := JR.out; omega
    have jl' : 2 ≤ (jn : Int) := JR.out.1
    have jh' : (jn : Int) ≤ 10 := JR.out.2
    cases k2 : inR s 1 ((jn : Int) - 1)
    · have H := Lib.hid (if_2 (fs := fs) k1 k2)
      have hc := nc_2 k1 k2
      go_enter Try.func30, Try.ntmps30
      go_wp2_with (first | (go_at_call 17; refine (implValidNet _ _ _ _ _ _ (HA.out.below (by repeat (first | exact Below.refl _ _ | assumption | apply bl_alloc | apply bl_drewN | apply Below.drew | (refine bl_set ?_ (by first | exact Nat.le_refl _ | (simp; done) | (simp; omega)) _) | (refine bl_trans ?_ (by assumption))))) HL.out hm).mono ?_; rintro e w1 ⟨rfl, hb1⟩; have kx : w1.heap[w.heap.size]? = some (.cells #[.int .i64 (jn : Int), .slice A n k] 29 (0, 0)) := keep_blk (hb := hb1) (h := by first | exact kx | exact heap_alloc_new _ _); obtain ⟨x0, x1, xl⟩ := row_two kx) | (go_at_call 60; refine (implInner _ _ _ _ _ _ JR.out).mono ?_; rintro e w2 ⟨rfl, hb2⟩; have kx : w2.heap[w.heap.size]? = some (.cells #[.int .i64 (jn : Int), .slice A n k] 29 (0, 0)) := keep_blk (hb := hb2) (h := by first | exact kx | exact heap_alloc_new _ _); obtain ⟨x0, x1, xl⟩ := row_two kx))
      go_ret2
      rw [H.out.1, H.out.2]
      exact ⟨rfl, by repeat (first | exact Below.refl _ _ | assumption | apply bl_alloc | apply bl_drewN | apply Below.drew | (refine bl_set ?_ (by first | exact Nat.le_refl _ | (simp; done) | (simp; omega)) _) | (refine bl_trans ?_ (by assumption)))⟩
    · have hc := nc_3 k1 k2
      have SR := Lib.hid (inR_of k2)
      by_cases k3 : fs.length = n
      · have H := Lib.hid (if_4 k1 k2 k3)
        subst k3
        go_enter Try.func30, Try.ntmps30
        go_wp2_with (first | (go_at_call 17; refine (implValidNet _ _ _ _ _ _ (HA.out.below (by repeat (first | exact Below.refl _ _ | assumption | apply bl_alloc | apply bl_drewN | apply Below.drew | (refine bl_set ?_ (by first | exact Nat.le_refl _ | (simp; done) | (simp; omega)) _) | (refine bl_trans ?_ (by assumption))))) HL.out hm).mono ?_; rintro e w1 ⟨rfl, hb1⟩; have kx : w1.heap[w.heap.size]? = some (.cells #[.int .i64 (jn : Int), .slice A fs.length k] 29 (0, 0)) := keep_blk (hb := hb1) (h := by first | exact kx | exact heap_alloc_new _ _); obtain ⟨x0, x1, xl⟩ := row_two kx) | (go_at_call 60; refine (implInner _ _ _ _ _ _ JR.out).mono ?_; rintro e w2 ⟨rfl, hb2⟩; have kx : w2.heap[w.heap.size]? = some (.cells #[.int .i64 (jn : Int), .slice A fs.length k] 29 (0, 0)) := keep_blk (hb := hb2) (h := by first | exact kx | exact heap_alloc_new _ _); obtain ⟨x0, x1, xl⟩ := row_two kx) | (go_at_call 61; refine (implLeads _ _ _ _ _ _ _ _ _ (HA.out.below (by repeat (first | exact Below.refl _ _ | assumption | apply bl_alloc | apply bl_drewN | apply Below.drew | (refine bl_set ?_ (by first | exact Nat.le_refl _ | (simp; done) | (simp; omega)) _) | (refine bl_trans ?_ (by assumption))))) HL.out (HF.out.below (by repeat (first | exact Below.refl _ _ | assumption | apply bl_alloc | apply bl_drewN | apply Below.drew | (refine bl_set ?_ (by first | exact Nat.le_refl _ | (simp; done) | (simp; omega)) _) | (refine bl_trans ?_ (by assumption))))) JR.out N.out.2.1 N.out.2.2).mono ?_; rintro e w3 ⟨rfl, hb3⟩))
        go_ret2
        rw [H.out.1, H.out.2]
        exact ⟨rfl, by repeat (first | exact Below.refl _ _ | assumption | apply bl_alloc | apply bl_drewN | apply Below.drew | (refine bl_set ?_ (by first | exact Nat.le_refl _ | (simp; done) | (simp; omega)) _) | (refine bl_trans ?_ (by assumption)))⟩
      · have H := Lib.hid (if_3 k1 k2 k3)
        have k3' : ((fs.length : Int) != (n : Int)) = true := bneI_yes (by omega)
        go_enter Try.func30, Try.ntmps30
        go_wp2_with (first | (go_at_call 17; refine (implValidNet _ _ _ _ _ _ (HA.out.below (by repeat (first | exact Below.refl _ _ | assumption | apply bl_alloc | apply bl_drewN | apply Below.drew | (refine bl_set ?_ (by first | exact Nat.le_refl _ | (simp; done) | (simp; omega)) _) | (refine bl_trans ?_ (by assumption))))) HL.out hm).mono ?_; rintro e w1 ⟨rfl, hb1⟩; have kx : w1.heap[w.heap.size]? = some (.cells #[.int .i64 (jn : Int), .slice A n k] 29 (0, 0)) := keep_blk (hb := hb1) (h := by first | exact kx | exact heap_alloc_new _ _); obtain ⟨x0, x1, xl⟩ := row_two kx) | (go_at_call 60; refine (implInner _ _ _ _ _ _ JR.out).mono ?_; rintro e w2 ⟨rfl, hb2⟩; have kx : w2.heap[w.heap.size]? = some (.cells #[.int .i64 (jn : Int), .slice A n k] 29 (0, 0)) := keep_blk (hb := hb2) (h := by first | exact kx | exact heap_alloc_new _ _); obtain ⟨x0, x1, xl⟩ := row_two kx))
        go_ret2
        rw [H.out.1, H.out.2]
        exact ⟨rfl, by repeat (first | exact Below.refl _ _ | assumption | apply bl_alloc | apply bl_drewN | apply Below.drew | (refine bl_set ?_ (by first | exact Nat.le_refl _ | (simp; done) | (simp; omega)) _) | (refine bl_trans ?_ (by assumption)))⟩
set_option maxHeartbeats 1600000 in
theorem specIsFlow (w : World) (J s : Int) (A F : Option Addr) (n k c : Nat) (fl fs : List Int) (hA : RC w A (ints fl)) (lf : fl.length = n * 3) (hm : n ≤ 1048576) (hF : RC w F (ints fs)) (hmf : fs.length ≤ 1048576) :
    Calls Try.prog 29 #[.agg #[.int .i64 J, .slice A n k], .int .i64 s, .slice F fs.length c] w fun e w' => e = .returned (.tuple #[.bool (ifB J n fl fs s), .int .i64 (ifC J n fl fs s)]) ∧ Below w.heap.size w w' := by
  have HA := Lib.hid hA
  have HL := Lib.hid lf
  have HF := Lib.hid hF
  clear hA lf hF
  cases k1 : netOk J n fl
  · have H := Lib.hid (if_1 (fs := fs) (s := s) k1)
    have hc := nc_1 (s := s) k1
    go_enter Try.func29, Try.ntmps29
    go_wp2_with ((go_at_call 58; refine (l04Code_any _ w.heap.size J s A n k fl (by first | exact x0 | simp [go_sem]) (by first | exact x1 | simp [go_sem]) (HA.out.below (by repeat (first | exact Below.refl _ _ | assumption | apply bl_alloc | apply bl_drewN | apply Below.drew | (refine bl_set ?_ (by first | exact Nat.le_refl _ | (simp; done) | (simp; omega)) _) | (refine bl_trans ?_ (by assumption))))) HL.out hm).mono ?_; rintro e w1 ⟨rfl, hb1⟩; have kx : w1.heap[w.heap.size]? = some (.cells #[.int .i64 J, .slice A n k] 29 (0, 0)) := keep_blk (hb := hb1) (h := by first | exact kx | exact heap_alloc_new _ _); obtain ⟨x0, x1, xl⟩ := row_two kx))
    go_ret2
    rw [H.out.1, H.out.2]
    exact ⟨rfl, by repeat (first | exact Below.refl _ _ | assumption | apply bl_alloc | apply bl_drewN | apply Below.drew | (refine bl_set ?_ (by first | exact Nat.le_refl _ | (simp; done) | (simp; omega)) _) | (refine bl_trans ?_ (by assumption)))⟩
  · have N := Lib.hid (netOk_of k1)
    obtain ⟨jn, rfl⟩ : ∃ jn : Nat, J = (jn : Int) := ⟨J.toNat, by have := N.out.1; omega⟩
    have JR := Lib.hid N.out.1
    have jl : 2 ≤ jn := by have := JR.out; omega
    have jh : jn ≤ 10 := by have := JR.out; omega
    have jl' : 2 ≤ (jn : Int) := JR.out.1
    have jh' : (jn : Int) ≤ 10 := JR.out.2
    cases k2 : inR s 1 ((jn : Int) - 1)
    · have H := Lib.hid (if_2 (fs := fs) k1 k2)
      have hc := nc_2 k1 k2
      go_enter Try.func29, Try.ntmps29
      go_wp2_with ((go_at_call 58; refine (l04Code_any _ w.heap.size (jn : Int) s A n k fl (by first | exact x0 | simp [go_sem]) (by first | exact x1 | simp [go_sem]) (HA.out.below (by repeat (first | exact Below.refl _ _ | assumption | apply bl_alloc | apply bl_drewN | apply Below.drew | (refine bl_set ?_ (by first | exact Nat.le_refl _ | (simp; done) | (simp; omega)) _) | (refine bl_trans ?_ (by assumption))))) HL.out hm).mono ?_; rintro e w1 ⟨rfl, hb1⟩; have kx : w1.heap[w.heap.size]? = some (.cells #[.int .i64 (jn : Int), .slice A n k] 29 (0, 0)) := keep_blk (hb := hb1) (h := by first | exact kx | exact heap_alloc_new _ _); obtain ⟨x0, x1, xl⟩ := row_two kx))
      go_ret2
      rw [H.out.1, H.out.2]
      exact ⟨rfl, by repeat (first | exact Below.refl _ _ | assumption | apply bl_alloc | apply bl_drewN | apply Below.drew | (refine bl_set ?_ (by first | exact Nat.le_refl _ | (simp; done) | (simp; omega)) _) | (refine bl_trans ?_ (by assumption)))⟩
    · have hc := nc_3 k1 k2
      have SR := Lib.hid (inR_of k2)
      by_cases k3 : fs.length = n
      · have H := Lib.hid (if_4 k1 k2 k3)
        subst k3
        go_enter Try.func29, Try.ntmps29
        go_wp2_with (first | (go_at_call 58; refine (l04Code_any _ w.heap.size (jn : Int) s A fs.length k fl (by first | exact x0 | simp [go_sem]) (by first | exact x1 | simp [go_sem]) (HA.out.below (by repeat (first | exact Below.refl _ _ | assumption | apply bl_alloc | apply bl_drewN | apply Below.drew | (refine bl_set ?_ (by first | exact Nat.le_refl _ | (simp; done) | (simp; omega)) _) | (refine bl_trans ?_ (by assumption))))) HL.out hm).mono ?_; rintro e w1 ⟨rfl, hb1⟩; have kx : w1.heap[w.heap.size]? = some (.cells #[.int .i64 (jn : Int), .slice A fs.length k] 29 (0, 0)) := keep_blk (hb := hb1) (h := by first | exact kx | exact heap_alloc_new _ _); obtain ⟨x0, x1, xl⟩ := row_two kx) | (go_at_call 59; refine (specLead _ w.heap.size jn s A F k c fl fs (by first | exact x0 | simp [go_sem, x0]) (by first | exact x1 | simp [go_sem, x1]) (HA.out.below (by repeat (first | exact Below.refl _ _ | assumption | apply bl_alloc | apply bl_drewN | apply Below.drew | (refine bl_set ?_ (by first | exact Nat.le_refl _ | (simp; done) | (simp; omega)) _) | (refine bl_trans ?_ (by assumption))))) HL.out (HF.out.below (by repeat (first | exact Below.refl _ _ | assumption | apply bl_alloc | apply bl_drewN | apply Below.drew | (refine bl_set ?_ (by first | exact Nat.le_refl _ | (simp; done) | (simp; omega)) _) | (refine bl_trans ?_ (by assumption))))) ⟨jl, jh⟩ SR.out N.out.2.1 N.out.2.2).mono ?_; rintro e w3 ⟨xr, rfl, hxr, hb3⟩; have kx : w3.heap[w.heap.size]? = some (.cells #[.int .i64 (jn : Int), .slice A fs.length k] 29 (0, 0)) := keep_blk (hb := hb3) (h := by first | exact kx | exact heap_alloc_new _ _); obtain ⟨x0, x1, xl⟩ := row_two kx))
        go_ret2
        rw [H.out.1, H.out.2]
        exact ⟨rfl, by repeat (first | exact Below.refl _ _ | assumption | apply bl_alloc | apply bl_drewN | apply Below.drew | (refine bl_set ?_ (by first | exact Nat.le_refl _ | (simp; done) | (simp; omega)) _) | (refine bl_trans ?_ (by assumption)))⟩
      · have H := Lib.hid (if_3 k1 k2 k3)
        have k3' : ((fs.length : Int) != (n : Int)) = true := bneI_yes (by omega)
        go_enter Try.func29, Try.ntmps29
        go_wp2_with ((go_at_call 58; refine (l04Code_any _ w.heap.size (jn : Int) s A n k fl (by first | exact x0 | simp [go_sem]) (by first | exact x1 | simp [go_sem]) (HA.out.below (by repeat (first | exact Below.refl _ _ | assumption | apply bl_alloc | apply bl_drewN | apply Below.drew | (refine bl_set ?_ (by first | exact Nat.le_refl _ | (simp; done) | (simp; omega)) _) | (refine bl_trans ?_ (by assumption))))) HL.out hm).mono ?_; rintro e w1 ⟨rfl, hb1⟩; have kx : w1.heap[w.heap.size]? = some (.cells #[.int .i64 (jn : Int), .slice A n k] 29 (0, 0)) := keep_blk (hb := hb1) (h := by first | exact kx | exact heap_alloc_new _ _); obtain ⟨x0, x1, xl⟩ := row_two kx))
        go_ret2
        rw [H.out.1, H.out.2]
        exact ⟨rfl, by repeat (first | exact Below.refl _ _ | assumption | apply bl_alloc | apply bl_drewN | apply Below.drew | (refine bl_set ?_ (by first | exact Nat.le_refl _ | (simp; done) | (simp; omega)) _) | (refine bl_trans ?_ (by assumption)))⟩
theorem WB.rc {w : World} (x : WB w) {A : Option Addr} {cs : List Value} (h : RC w A cs) : RC x.W A cs := h.below x.hb
theorem ld_flIn {J : Int} {n : Nat} {fl fs : List Int} {s : Int} (h : ldB J n fl fs s = true) : allN (flIn fl fs) n = true := by
  simp only [ldB, Bool.and_eq_true] at h
  exact h.1

set_option maxRecDepth 100000 in
set_option maxHeartbeats 3200000 in
theorem implFlowProof (w : World) (J s : Int) (A F S : Option Addr) (n k c c' : Nat) (fl fs side : List Int) (hA : RC w A (ints fl)) (lf : fl.length = n * 3) (hm : n ≤ 1048576) (hF : RC w F (ints fs)) (hmf : fs.length ≤ 1048576) (hS : RC w S (ints side)) (hms : side.length ≤ 1048576) :
    Calls Try.prog 36 #[.agg #[.int .i64 J, .slice A n k], .int .i64 s, .slice F fs.length c, .slice S side.length c'] w fun e w' => e = .returned (.tuple #[.bool (fpB J n fl fs side s), .int .i64 (fpC J n fl fs side s)]) ∧ Below w.heap.size w w' := by
  have HA := Lib.hid hA
  have HL := Lib.hid lf
  have HF := Lib.hid hF
  clear hA lf hF
  have HS := Lib.hid hS
  clear hS
  cases k1 : netOk J n fl
  · have H := Lib.hid (fp_1 (fs := fs) (side := side) (s := s) k1)
    have hc := nc_1 (s := s) k1
    go_enter Try.func36, Try.ntmps36
    go_wp2_with ((go_at_call 17; refine (implValidNet _ _ _ _ _ _ (HA.out.below (by repeat (first | exact Below.refl _ _ | assumption | apply bl_alloc | apply bl_drewN | apply Below.drew | (refine bl_set ?_ (by first | exact Nat.le_refl _ | (simp; done) | (simp; omega)) _) | (refine bl_trans ?_ (by assumption))))) HL.out hm).mono ?_; rintro e w1 ⟨rfl, hb1⟩; have kx : w1.heap[w.heap.size]? = some (.cells #[.int .i64 J, .slice A n k] 29 (0, 0)) := keep_blk (hb := hb1) (h := by first | exact kx | exact heap_alloc_new _ _); obtain ⟨x0, x1, xl⟩ := row_two kx))
    go_ret2
    rw [H.out.1, H.out.2]
    exact ⟨rfl, by repeat (first | exact Below.refl _ _ | assumption | apply bl_alloc | apply bl_drewN | apply Below.drew | (refine bl_set ?_ (by first | exact Nat.le_refl _ | (simp; done) | (simp; omega)) _) | (refine bl_trans ?_ (by assumption)))⟩
  · have N := Lib.hid (netOk_of k1)
    obtain ⟨jn, rfl⟩ : ∃ jn : Nat, J = (jn : Int) := ⟨J.toNat, by have := N.out.1; omega⟩
    have JR := Lib.hid N.out.1
    have jl : 2 ≤ jn := by have := JR.out; omega
    have jh : jn ≤ 10 := by have := JR.out; omega
    have jl' : 2 ≤ (jn : Int) := JR.out.1
    have jh' : (jn : Int) ≤ 10 := JR.out.2
    cases k2 : inR s 1 ((jn : Int) - 1)
    · have H := Lib.hid (fp_2 (fs := fs) (side := side) k1 k2)
      have hc := nc_2 k1 k2
      go_enter Try.func36, Try.ntmps36
      go_wp2_with (first | (go_at_call 17; refine (implValidNet _ _ _ _ _ _ (HA.out.below (by repeat (first | exact Below.refl _ _ | assumption | apply bl_alloc | apply bl_drewN | apply Below.drew | (refine bl_set ?_ (by first | exact Nat.le_refl _ | (simp; done) | (simp; omega)) _) | (refine bl_trans ?_ (by assumption))))) HL.out hm).mono ?_; rintro e w1 ⟨rfl, hb1⟩; have kx : w1.heap[w.heap.size]? = some (.cells #[.int .i64 (jn : Int), .slice A n k] 29 (0, 0)) := keep_blk (hb := hb1) (h := by first | exact kx | exact heap_alloc_new _ _); obtain ⟨x0, x1, xl⟩ := row_two kx) | (go_at_call 60; refine (implInner _ _ _ _ _ _ JR.out).mono ?_; rintro e w2 ⟨rfl, hb2⟩; have kx : w2.heap[w.heap.size]? = some (.cells #[.int .i64 (jn : Int), .slice A n k] 29 (0, 0)) := keep_blk (hb := hb2) (h := by first | exact kx | exact heap_alloc_new _ _); obtain ⟨x0, x1, xl⟩ := row_two kx))
      go_ret2
      rw [H.out.1, H.out.2]
      exact ⟨rfl, by repeat (first | exact Below.refl _ _ | assumption | apply bl_alloc | apply bl_drewN | apply Below.drew | (refine bl_set ?_ (by first | exact Nat.le_refl _ | (simp; done) | (simp; omega)) _) | (refine bl_trans ?_ (by assumption)))⟩
    · have hc := nc_3 k1 k2
      have SR := Lib.hid (inR_of k2)
      by_cases k3 : fs.length = n
      · cases k4 : risesB side 0 ((jn : Int) - 1)
        · have H := Lib.hid (fp_4 k1 k2 k3 k4)
          subst k3
          go_enter Try.func36, Try.ntmps36
          go_wp2_with (first | (go_at_call 17; refine (implValidNet _ _ _ _ _ _ (HA.out.below (by repeat (first | exact Below.refl _ _ | assumption | apply bl_alloc | apply bl_drewN | apply Below.drew | (refine bl_set ?_ (by first | exact Nat.le_refl _ | (simp; done) | (simp; omega)) _) | (refine bl_trans ?_ (by assumption))))) HL.out hm).mono ?_; rintro e w1 ⟨rfl, hb1⟩; have kx : w1.heap[w.heap.size]? = some (.cells #[.int .i64 (jn : Int), .slice A fs.length k] 29 (0, 0)) := keep_blk (hb := hb1) (h := by first | exact kx | exact heap_alloc_new _ _); obtain ⟨x0, x1, xl⟩ := row_two kx) | (go_at_call 60; refine (implInner _ _ _ _ _ _ JR.out).mono ?_; rintro e w2 ⟨rfl, hb2⟩; have kx : w2.heap[w.heap.size]? = some (.cells #[.int .i64 (jn : Int), .slice A fs.length k] 29 (0, 0)) := keep_blk (hb := hb2) (h := by first | exact kx | exact heap_alloc_new _ _); obtain ⟨x0, x1, xl⟩ := row_two kx) | (go_at_call 56; refine (rises_any _ _ _ _ _ _ (HS.out.below (by repeat (first | exact Below.refl _ _ | assumption | apply bl_alloc | apply bl_drewN | apply Below.drew | (refine bl_set ?_ (by first | exact Nat.le_refl _ | (simp; done) | (simp; omega)) _) | (refine bl_trans ?_ (by assumption))))) hms).mono ?_; rintro e w' ⟨rfl, dd, rfl⟩))
          go_ret2
          rw [H.out.1, H.out.2]
          exact ⟨rfl, by repeat (first | exact Below.refl _ _ | assumption | apply bl_alloc | apply bl_drewN | apply Below.drew | (refine bl_set ?_ (by first | exact Nat.le_refl _ | (simp; done) | (simp; omega)) _) | (refine bl_trans ?_ (by assumption)))⟩
        · cases k5 : ldB (jn : Int) n fl fs s
          · have H := Lib.hid (fp_5 k1 k2 k3 k4 k5)
            subst k3
            go_enter Try.func36, Try.ntmps36
            go_wp2_with (first | (go_at_call 17; refine (implValidNet _ _ _ _ _ _ (HA.out.below (by repeat (first | exact Below.refl _ _ | assumption | apply bl_alloc | apply bl_drewN | apply Below.drew | (refine bl_set ?_ (by first | exact Nat.le_refl _ | (simp; done) | (simp; omega)) _) | (refine bl_trans ?_ (by assumption))))) HL.out hm).mono ?_; rintro e w1 ⟨rfl, hb1⟩; have kx : w1.heap[w.heap.size]? = some (.cells #[.int .i64 (jn : Int), .slice A fs.length k] 29 (0, 0)) := keep_blk (hb := hb1) (h := by first | exact kx | exact heap_alloc_new _ _); obtain ⟨x0, x1, xl⟩ := row_two kx) | (go_at_call 60; refine (implInner _ _ _ _ _ _ JR.out).mono ?_; rintro e w2 ⟨rfl, hb2⟩; have kx : w2.heap[w.heap.size]? = some (.cells #[.int .i64 (jn : Int), .slice A fs.length k] 29 (0, 0)) := keep_blk (hb := hb2) (h := by first | exact kx | exact heap_alloc_new _ _); obtain ⟨x0, x1, xl⟩ := row_two kx) | (go_at_call 56; refine (rises_any _ _ _ _ _ _ (HS.out.below (by repeat (first | exact Below.refl _ _ | assumption | apply bl_alloc | apply bl_drewN | apply Below.drew | (refine bl_set ?_ (by first | exact Nat.le_refl _ | (simp; done) | (simp; omega)) _) | (refine bl_trans ?_ (by assumption))))) hms).mono ?_; rintro e w' ⟨rfl, dd, rfl⟩))
            have g0 : ∀ x : WB w2, x.W.cell? ⟨w.heap.size, 0, none⟩ = some (.int .i64 (jn : Int)) := fun x => x.cell x0
            have g1 : ∀ x : WB w2, x.W.cell? ⟨w.heap.size, 1, none⟩ = some (.slice A fs.length k) := fun x => x.cell x1
            have hbw : Below w.heap.size w w2 := by repeat (first | exact Below.refl _ _ | assumption | apply bl_alloc | apply bl_drewN | apply Below.drew | (refine bl_set ?_ (by first | exact Nat.le_refl _ | (simp; done) | (simp; omega)) _) | (refine bl_trans ?_ (by assumption)))
            have HA1 := Lib.hid (HA.out.below hbw)
            have HF1 := Lib.hid (HF.out.below hbw)
            have HS1 := Lib.hid (HS.out.below hbw)
            have hzz := hbw.size
            have hq0 := fun x : WB w2 => implLeads x.W (jn : Int) s A F k c fl fs (x.rc HA1.out) HL.out (x.rc HF1.out) JR.out N.out.2.1 N.out.2.2
            simp only [k5] at hq0
            refine wp_region_quiet (C := InWB w2) (by kernel_rfl) (by kernel_rfl) (inWB_of (by first | exact (Below.refl _ _).drew | exact (bl_drewN (Below.refl _ _) _).drew)) ?_
            simp only []
            unfold InWB
            repeat go_big_quiet_step ((first | (go_at_call 61; with_reducible exact wb_below (hq0 _))))
            refine wpQuiet_nil ?_
            rintro w4 ⟨x4, rfl⟩
            go_wp2
            go_ret2
            rw [H.out.1, H.out.2]
            exact ⟨rfl, bl_trans hbw x4.hb⟩
          · cases k6 : hasB side s
            · have H := Lib.hid (fp_6 k1 k2 k3 k4 k6)
              subst k3
              go_enter Try.func36, Try.ntmps36
              go_wp2_with (first | (go_at_call 17; refine (implValidNet _ _ _ _ _ _ (HA.out.below (by repeat (first | exact Below.refl _ _ | assumption | apply bl_alloc | apply bl_drewN | apply Below.drew | (refine bl_set ?_ (by first | exact Nat.le_refl _ | (simp; done) | (simp; omega)) _) | (refine bl_trans ?_ (by assumption))))) HL.out hm).mono ?_; rintro e w1 ⟨rfl, hb1⟩; have kx : w1.heap[w.heap.size]? = some (.cells #[.int .i64 (jn : Int), .slice A fs.length k] 29 (0, 0)) := keep_blk (hb := hb1) (h := by first | exact kx | exact heap_alloc_new _ _); obtain ⟨x0, x1, xl⟩ := row_two kx) | (go_at_call 60; refine (implInner _ _ _ _ _ _ JR.out).mono ?_; rintro e w2 ⟨rfl, hb2⟩; have kx : w2.heap[w.heap.size]? = some (.cells #[.int .i64 (jn : Int), .slice A fs.length k] 29 (0, 0)) := keep_blk (hb := hb2) (h := by first | exact kx | exact heap_alloc_new _ _); obtain ⟨x0, x1, xl⟩ := row_two kx) | (go_at_call 56; refine (rises_any _ _ _ _ _ _ (HS.out.below (by repeat (first | exact Below.refl _ _ | assumption | apply bl_alloc | apply bl_drewN | apply Below.drew | (refine bl_set ?_ (by first | exact Nat.le_refl _ | (simp; done) | (simp; omega)) _) | (refine bl_trans ?_ (by assumption))))) hms).mono ?_; rintro e w' ⟨rfl, dd, rfl⟩))
              have g0 : ∀ x : WB w2, x.W.cell? ⟨w.heap.size, 0, none⟩ = some (.int .i64 (jn : Int)) := fun x => x.cell x0
              have g1 : ∀ x : WB w2, x.W.cell? ⟨w.heap.size, 1, none⟩ = some (.slice A fs.length k) := fun x => x.cell x1
              have hbw : Below w.heap.size w w2 := by repeat (first | exact Below.refl _ _ | assumption | apply bl_alloc | apply bl_drewN | apply Below.drew | (refine bl_set ?_ (by first | exact Nat.le_refl _ | (simp; done) | (simp; omega)) _) | (refine bl_trans ?_ (by assumption)))
              have HA1 := Lib.hid (HA.out.below hbw)
              have HF1 := Lib.hid (HF.out.below hbw)
              have HS1 := Lib.hid (HS.out.below hbw)
              have hzz := hbw.size
              have hq0 := fun x : WB w2 => implLeads x.W (jn : Int) s A F k c fl fs (x.rc HA1.out) HL.out (x.rc HF1.out) JR.out N.out.2.1 N.out.2.2
              simp only [k5] at hq0
              have hq1 := fun x : WB w2 => has_any x.W S c' side s (x.rc HS1.out) hms
              have hq2 := fun x : WB w2 => has_any x.W S c' side 0 (x.rc HS1.out) hms
              simp only [k6] at hq1
              try simp only [k7] at hq2
              refine wp_region_quiet (C := InWB w2) (by kernel_rfl) (by kernel_rfl) (inWB_of (by first | exact (Below.refl _ _).drew | exact (bl_drewN (Below.refl _ _) _).drew)) ?_
              simp only []
              unfold InWB
              repeat go_big_quiet_step ((first | (go_at_call 61; with_reducible exact wb_below (hq0 _)) | (go_at_call 66; first | with_reducible exact wb_same (hq1 _) | with_reducible exact wb_same (hq2 _))))
              refine wpQuiet_nil ?_
              rintro w4 ⟨x4, rfl⟩
              go_wp2
              go_ret2
              rw [H.out.1, H.out.2]
              exact ⟨rfl, bl_trans hbw x4.hb⟩
            · cases k7 : hasB side 0
              · have H := Lib.hid (fp_8 k1 k2 k3 k4 k5 k6 k7)
                subst k3
                have LI := Lib.hid (ld_flIn k5)
                go_enter Try.func36, Try.ntmps36
                go_wp2_with (first | (go_at_call 17; refine (implValidNet _ _ _ _ _ _ (HA.out.below (by repeat (first | exact Below.refl _ _ | assumption | apply bl_alloc | apply bl_drewN | apply Below.drew | (refine bl_set ?_ (by first | exact Nat.le_refl _ | (simp; done) | (simp; omega)) _) | (refine bl_trans ?_ (by assumption))))) HL.out hm).mono ?_; rintro e w1 ⟨rfl, hb1⟩; have kx : w1.heap[w.heap.size]? = some (.cells #[.int .i64 (jn : Int), .slice A fs.length k] 29 (0, 0)) := keep_blk (hb := hb1) (h := by first | exact kx | exact heap_alloc_new _ _); obtain ⟨x0, x1, xl⟩ := row_two kx) | (go_at_call 60; refine (implInner _ _ _ _ _ _ JR.out).mono ?_; rintro e w2 ⟨rfl, hb2⟩; have kx : w2.heap[w.heap.size]? = some (.cells #[.int .i64 (jn : Int), .slice A fs.length k] 29 (0, 0)) := keep_blk (hb := hb2) (h := by first | exact kx | exact heap_alloc_new _ _); obtain ⟨x0, x1, xl⟩ := row_two kx) | (go_at_call 56; refine (rises_any _ _ _ _ _ _ (HS.out.below (by repeat (first | exact Below.refl _ _ | assumption | apply bl_alloc | apply bl_drewN | apply Below.drew | (refine bl_set ?_ (by first | exact Nat.le_refl _ | (simp; done) | (simp; omega)) _) | (refine bl_trans ?_ (by assumption))))) hms).mono ?_; rintro e w' ⟨rfl, dd, rfl⟩))
                have g0 : ∀ x : WB w2, x.W.cell? ⟨w.heap.size, 0, none⟩ = some (.int .i64 (jn : Int)) := fun x => x.cell x0
                have g1 : ∀ x : WB w2, x.W.cell? ⟨w.heap.size, 1, none⟩ = some (.slice A fs.length k) := fun x => x.cell x1
                have hbw : Below w.heap.size w w2 := by repeat (first | exact Below.refl _ _ | assumption | apply bl_alloc | apply bl_drewN | apply Below.drew | (refine bl_set ?_ (by first | exact Nat.le_refl _ | (simp; done) | (simp; omega)) _) | (refine bl_trans ?_ (by assumption)))
                have HA1 := Lib.hid (HA.out.below hbw)
                have HF1 := Lib.hid (HF.out.below hbw)
                have HS1 := Lib.hid (HS.out.below hbw)
                have hzz := hbw.size
                have hq0 := fun x : WB w2 => implLeads x.W (jn : Int) s A F k c fl fs (x.rc HA1.out) HL.out (x.rc HF1.out) JR.out N.out.2.1 N.out.2.2
                simp only [k5] at hq0
                have hq1 := fun x : WB w2 => has_any x.W S c' side s (x.rc HS1.out) hms
                have hq2 := fun x : WB w2 => has_any x.W S c' side 0 (x.rc HS1.out) hms
                simp only [k6] at hq1
                try simp only [k7] at hq2
                have hq3 := fun x : WB w2 => implOut x.W (jn : Int) s A F k c fl fs (x.rc HA1.out) HL.out (x.rc HF1.out) N.out.2.1 (flIn_bd LI.out (fun i hi => (N.out.2.2 i hi).2.2.2))
                have hq4 := fun x : WB w2 => implCut x.W (jn : Int) A S fs.length k c' fl side (x.rc HA1.out) HL.out hm (x.rc HS1.out) hms N.out.2.1 (fun i hi => (N.out.2.2 i hi).2.2.2)
                refine wp_region_quiet (C := InWB w2) (by kernel_rfl) (by kernel_rfl) (inWB_of (by first | exact (Below.refl _ _).drew | exact (bl_drewN (Below.refl _ _) _).drew)) ?_
                simp only []
                unfold InWB
                repeat go_big_quiet_step ((first | (go_at_call 61; with_reducible exact wb_below (hq0 _)) | (go_at_call 66; first | with_reducible exact wb_same (hq1 _) | with_reducible exact wb_same (hq2 _)) | (go_at_call 67; with_reducible exact wb_below (hq3 _)) | (go_at_call 57; with_reducible exact wb_below (hq4 _))))
                refine wpQuiet_nil ?_
                rintro w4 ⟨x4, rfl⟩
                go_wp2
                go_ret2
                rw [H.out.1, H.out.2]
                exact ⟨rfl, bl_trans hbw x4.hb⟩
              · have H := Lib.hid (fp_7 k1 k2 k3 k4 k7)
                subst k3
                go_enter Try.func36, Try.ntmps36
                go_wp2_with (first | (go_at_call 17; refine (implValidNet _ _ _ _ _ _ (HA.out.below (by repeat (first | exact Below.refl _ _ | assumption | apply bl_alloc | apply bl_drewN | apply Below.drew | (refine bl_set ?_ (by first | exact Nat.le_refl _ | (simp; done) | (simp; omega)) _) | (refine bl_trans ?_ (by assumption))))) HL.out hm).mono ?_; rintro e w1 ⟨rfl, hb1⟩; have kx : w1.heap[w.heap.size]? = some (.cells #[.int .i64 (jn : Int), .slice A fs.length k] 29 (0, 0)) := keep_blk (hb := hb1) (h := by first | exact kx | exact heap_alloc_new _ _); obtain ⟨x0, x1, xl⟩ := row_two kx) | (go_at_call 60; refine (implInner _ _ _ _ _ _ JR.out).mono ?_; rintro e w2 ⟨rfl, hb2⟩; have kx : w2.heap[w.heap.size]? = some (.cells #[.int .i64 (jn : Int), .slice A fs.length k] 29 (0, 0)) := keep_blk (hb := hb2) (h := by first | exact kx | exact heap_alloc_new _ _); obtain ⟨x0, x1, xl⟩ := row_two kx) | (go_at_call 56; refine (rises_any _ _ _ _ _ _ (HS.out.below (by repeat (first | exact Below.refl _ _ | assumption | apply bl_alloc | apply bl_drewN | apply Below.drew | (refine bl_set ?_ (by first | exact Nat.le_refl _ | (simp; done) | (simp; omega)) _) | (refine bl_trans ?_ (by assumption))))) hms).mono ?_; rintro e w' ⟨rfl, dd, rfl⟩))
                have g0 : ∀ x : WB w2, x.W.cell? ⟨w.heap.size, 0, none⟩ = some (.int .i64 (jn : Int)) := fun x => x.cell x0
                have g1 : ∀ x : WB w2, x.W.cell? ⟨w.heap.size, 1, none⟩ = some (.slice A fs.length k) := fun x => x.cell x1
                have hbw : Below w.heap.size w w2 := by repeat (first | exact Below.refl _ _ | assumption | apply bl_alloc | apply bl_drewN | apply Below.drew | (refine bl_set ?_ (by first | exact Nat.le_refl _ | (simp; done) | (simp; omega)) _) | (refine bl_trans ?_ (by assumption)))
                have HA1 := Lib.hid (HA.out.below hbw)
                have HF1 := Lib.hid (HF.out.below hbw)
                have HS1 := Lib.hid (HS.out.below hbw)
                have hzz := hbw.size
                have hq0 := fun x : WB w2 => implLeads x.W (jn : Int) s A F k c fl fs (x.rc HA1.out) HL.out (x.rc HF1.out) JR.out N.out.2.1 N.out.2.2
                simp only [k5] at hq0
                have hq1 := fun x : WB w2 => has_any x.W S c' side s (x.rc HS1.out) hms
                have hq2 := fun x : WB w2 => has_any x.W S c' side 0 (x.rc HS1.out) hms
                simp only [k6] at hq1
                try simp only [k7] at hq2
                refine wp_region_quiet (C := InWB w2) (by kernel_rfl) (by kernel_rfl) (inWB_of (by first | exact (Below.refl _ _).drew | exact (bl_drewN (Below.refl _ _) _).drew)) ?_
                simp only []
                unfold InWB
                repeat go_big_quiet_step ((first | (go_at_call 61; with_reducible exact wb_below (hq0 _)) | (go_at_call 66; first | with_reducible exact wb_same (hq1 _) | with_reducible exact wb_same (hq2 _))))
                refine wpQuiet_nil ?_
                rintro w4 ⟨x4, rfl⟩
                go_wp2
                go_ret2
                rw [H.out.1, H.out.2]
                exact ⟨rfl, bl_trans hbw x4.hb⟩
      · have H := Lib.hid (fp_3 (side := side) k1 k2 k3)
        have k3' : ((fs.length : Int) != (n : Int)) = true := bneI_yes (by omega)
        go_enter Try.func36, Try.ntmps36
        go_wp2_with (first | (go_at_call 17; refine (implValidNet _ _ _ _ _ _ (HA.out.below (by repeat (first | exact Below.refl _ _ | assumption | apply bl_alloc | apply bl_drewN | apply Below.drew | (refine bl_set ?_ (by first | exact Nat.le_refl _ | (simp; done) | (simp; omega)) _) | (refine bl_trans ?_ (by assumption))))) HL.out hm).mono ?_; rintro e w1 ⟨rfl, hb1⟩; have kx : w1.heap[w.heap.size]? = some (.cells #[.int .i64 (jn : Int), .slice A n k] 29 (0, 0)) := keep_blk (hb := hb1) (h := by first | exact kx | exact heap_alloc_new _ _); obtain ⟨x0, x1, xl⟩ := row_two kx) | (go_at_call 60; refine (implInner _ _ _ _ _ _ JR.out).mono ?_; rintro e w2 ⟨rfl, hb2⟩; have kx : w2.heap[w.heap.size]? = some (.cells #[.int .i64 (jn : Int), .slice A n k] 29 (0, 0)) := keep_blk (hb := hb2) (h := by first | exact kx | exact heap_alloc_new _ _); obtain ⟨x0, x1, xl⟩ := row_two kx))
        go_ret2
        rw [H.out.1, H.out.2]
        exact ⟨rfl, by repeat (first | exact Below.refl _ _ | assumption | apply bl_alloc | apply bl_drewN | apply Below.drew | (refine bl_set ?_ (by first | exact Nat.le_refl _ | (simp; done) | (simp; omega)) _) | (refine bl_trans ?_ (by assumption)))⟩
set_option maxRecDepth 100000 in
set_option maxHeartbeats 3200000 in
theorem specFlowProof (w : World) (J s : Int) (A F S : Option Addr) (n k c c' : Nat) (fl fs side : List Int) (hA : RC w A (ints fl)) (lf : fl.length = n * 3) (hm : n ≤ 1048576) (hF : RC w F (ints fs)) (hmf : fs.length ≤ 1048576) (hS : RC w S (ints side)) (hms : side.length ≤ 1048576) :
    Calls Try.prog 35 #[.agg #[.int .i64 J, .slice A n k], .int .i64 s, .slice F fs.length c, .slice S side.length c'] w fun e w' => e = .returned (.tuple #[.bool (fpB J n fl fs side s), .int .i64 (fpC J n fl fs side s)]) ∧ Below w.heap.size w w' := by
  have HA := Lib.hid hA
  have HL := Lib.hid lf
  have HF := Lib.hid hF
  clear hA lf hF
  have HS := Lib.hid hS
  clear hS
  cases k1 : netOk J n fl
  · have H := Lib.hid (fp_1 (fs := fs) (side := side) (s := s) k1)
    have hc := nc_1 (s := s) k1
    go_enter Try.func35, Try.ntmps35
    go_wp2_with ((go_at_call 58; refine (l04Code_any _ w.heap.size J s A n k fl (by first | exact x0 | simp [go_sem]) (by first | exact x1 | simp [go_sem]) (HA.out.below (by repeat (first | exact Below.refl _ _ | assumption | apply bl_alloc | apply bl_drewN | apply Below.drew | (refine bl_set ?_ (by first | exact Nat.le_refl _ | (simp; done) | (simp; omega)) _) | (refine bl_trans ?_ (by assumption))))) HL.out hm).mono ?_; rintro e w1 ⟨rfl, hb1⟩; have kx : w1.heap[w.heap.size]? = some (.cells #[.int .i64 J, .slice A n k] 29 (0, 0)) := keep_blk (hb := hb1) (h := by first | exact kx | exact heap_alloc_new _ _); obtain ⟨x0, x1, xl⟩ := row_two kx))
    go_ret2
    rw [H.out.1, H.out.2]
    exact ⟨rfl, by repeat (first | exact Below.refl _ _ | assumption | apply bl_alloc | apply bl_drewN | apply Below.drew | (refine bl_set ?_ (by first | exact Nat.le_refl _ | (simp; done) | (simp; omega)) _) | (refine bl_trans ?_ (by assumption)))⟩
  · have N := Lib.hid (netOk_of k1)
    obtain ⟨jn, rfl⟩ : ∃ jn : Nat, J = (jn : Int) := ⟨J.toNat, by have := N.out.1; omega⟩
    have JR := Lib.hid N.out.1
    have jl : 2 ≤ jn := by have := JR.out; omega
    have jh : jn ≤ 10 := by have := JR.out; omega
    have jl' : 2 ≤ (jn : Int) := JR.out.1
    have jh' : (jn : Int) ≤ 10 := JR.out.2
    cases k2 : inR s 1 ((jn : Int) - 1)
    · have H := Lib.hid (fp_2 (fs := fs) (side := side) k1 k2)
      have hc := nc_2 k1 k2
      go_enter Try.func35, Try.ntmps35
      go_wp2_with ((go_at_call 58; refine (l04Code_any _ w.heap.size (jn : Int) s A n k fl (by first | exact x0 | simp [go_sem]) (by first | exact x1 | simp [go_sem]) (HA.out.below (by repeat (first | exact Below.refl _ _ | assumption | apply bl_alloc | apply bl_drewN | apply Below.drew | (refine bl_set ?_ (by first | exact Nat.le_refl _ | (simp; done) | (simp; omega)) _) | (refine bl_trans ?_ (by assumption))))) HL.out hm).mono ?_; rintro e w1 ⟨rfl, hb1⟩; have kx : w1.heap[w.heap.size]? = some (.cells #[.int .i64 (jn : Int), .slice A n k] 29 (0, 0)) := keep_blk (hb := hb1) (h := by first | exact kx | exact heap_alloc_new _ _); obtain ⟨x0, x1, xl⟩ := row_two kx))
      go_ret2
      rw [H.out.1, H.out.2]
      exact ⟨rfl, by repeat (first | exact Below.refl _ _ | assumption | apply bl_alloc | apply bl_drewN | apply Below.drew | (refine bl_set ?_ (by first | exact Nat.le_refl _ | (simp; done) | (simp; omega)) _) | (refine bl_trans ?_ (by assumption)))⟩
    · have hc := nc_3 k1 k2
      have SR := Lib.hid (inR_of k2)
      by_cases k3 : fs.length = n
      · cases k4 : risesB side 0 ((jn : Int) - 1)
        · have H := Lib.hid (fp_4 k1 k2 k3 k4)
          subst k3
          go_enter Try.func35, Try.ntmps35
          go_wp2_with (first | (go_at_call 58; refine (l04Code_any _ w.heap.size (jn : Int) s A fs.length k fl (by first | exact x0 | simp [go_sem]) (by first | exact x1 | simp [go_sem]) (HA.out.below (by repeat (first | exact Below.refl _ _ | assumption | apply bl_alloc | apply bl_drewN | apply Below.drew | (refine bl_set ?_ (by first | exact Nat.le_refl _ | (simp; done) | (simp; omega)) _) | (refine bl_trans ?_ (by assumption))))) HL.out hm).mono ?_; rintro e w1 ⟨rfl, hb1⟩; have kx : w1.heap[w.heap.size]? = some (.cells #[.int .i64 (jn : Int), .slice A fs.length k] 29 (0, 0)) := keep_blk (hb := hb1) (h := by first | exact kx | exact heap_alloc_new _ _); obtain ⟨x0, x1, xl⟩ := row_two kx) | (go_at_call 54; refine (l00Rises_any _ _ _ _ _ _ (HS.out.below (by repeat (first | exact Below.refl _ _ | assumption | apply bl_alloc | apply bl_drewN | apply Below.drew | (refine bl_set ?_ (by first | exact Nat.le_refl _ | (simp; done) | (simp; omega)) _) | (refine bl_trans ?_ (by assumption))))) hms).mono ?_; rintro e w' ⟨rfl, dd, rfl⟩))
          go_ret2
          rw [H.out.1, H.out.2]
          exact ⟨rfl, by repeat (first | exact Below.refl _ _ | assumption | apply bl_alloc | apply bl_drewN | apply Below.drew | (refine bl_set ?_ (by first | exact Nat.le_refl _ | (simp; done) | (simp; omega)) _) | (refine bl_trans ?_ (by assumption)))⟩
        · cases k5 : ldB (jn : Int) n fl fs s
          · have H := Lib.hid (fp_5 k1 k2 k3 k4 k5)
            subst k3
            go_enter Try.func35, Try.ntmps35
            go_wp2_with (first | (go_at_call 58; refine (l04Code_any _ w.heap.size (jn : Int) s A fs.length k fl (by first | exact x0 | simp [go_sem]) (by first | exact x1 | simp [go_sem]) (HA.out.below (by repeat (first | exact Below.refl _ _ | assumption | apply bl_alloc | apply bl_drewN | apply Below.drew | (refine bl_set ?_ (by first | exact Nat.le_refl _ | (simp; done) | (simp; omega)) _) | (refine bl_trans ?_ (by assumption))))) HL.out hm).mono ?_; rintro e w1 ⟨rfl, hb1⟩; have kx : w1.heap[w.heap.size]? = some (.cells #[.int .i64 (jn : Int), .slice A fs.length k] 29 (0, 0)) := keep_blk (hb := hb1) (h := by first | exact kx | exact heap_alloc_new _ _); obtain ⟨x0, x1, xl⟩ := row_two kx) | (go_at_call 54; refine (l00Rises_any _ _ _ _ _ _ (HS.out.below (by repeat (first | exact Below.refl _ _ | assumption | apply bl_alloc | apply bl_drewN | apply Below.drew | (refine bl_set ?_ (by first | exact Nat.le_refl _ | (simp; done) | (simp; omega)) _) | (refine bl_trans ?_ (by assumption))))) hms).mono ?_; rintro e w' ⟨rfl, dd, rfl⟩) | (go_at_call 59; refine (specLead _ w.heap.size jn s A F k c fl fs (by first | exact x0 | simp [go_sem, x0]) (by first | exact x1 | simp [go_sem, x1]) (HA.out.below (by repeat (first | exact Below.refl _ _ | assumption | apply bl_alloc | apply bl_drewN | apply Below.drew | (refine bl_set ?_ (by first | exact Nat.le_refl _ | (simp; done) | (simp; omega)) _) | (refine bl_trans ?_ (by assumption))))) HL.out (HF.out.below (by repeat (first | exact Below.refl _ _ | assumption | apply bl_alloc | apply bl_drewN | apply Below.drew | (refine bl_set ?_ (by first | exact Nat.le_refl _ | (simp; done) | (simp; omega)) _) | (refine bl_trans ?_ (by assumption))))) ⟨jl, jh⟩ SR.out N.out.2.1 N.out.2.2).mono ?_; rintro e w3 ⟨xr, rfl, hxr, hb3⟩; have kx : w3.heap[w.heap.size]? = some (.cells #[.int .i64 (jn : Int), .slice A fs.length k] 29 (0, 0)) := keep_blk (hb := hb3) (h := by first | exact kx | exact heap_alloc_new _ _); obtain ⟨x0, x1, xl⟩ := row_two kx) | (go_at_call 65; refine (l00Has_any _ _ _ _ _ (HS.out.below (by repeat (first | exact Below.refl _ _ | assumption | apply bl_alloc | apply bl_drewN | apply Below.drew | (refine bl_set ?_ (by first | exact Nat.le_refl _ | (simp; done) | (simp; omega)) _) | (refine bl_trans ?_ (by assumption))))) hms).mono ?_; rintro e w' ⟨rfl, rfl⟩) | (go_at_call 55; refine (specCut _ w.heap.size (jn : Int) A _ fs.length k _ fl _ (by first | exact x0 | simp [go_sem, x0]) (by first | exact x1 | simp [go_sem, x1]) (HA.out.below (by repeat (first | exact Below.refl _ _ | assumption | apply bl_alloc | apply bl_drewN | apply Below.drew | (refine bl_set ?_ (by first | exact Nat.le_refl _ | (simp; done) | (simp; omega)) _) | (refine bl_trans ?_ (by assumption))))) HL.out hm (HS.out.below (by repeat (first | exact Below.refl _ _ | assumption | apply bl_alloc | apply bl_drewN | apply Below.drew | (refine bl_set ?_ (by first | exact Nat.le_refl _ | (simp; done) | (simp; omega)) _) | (refine bl_trans ?_ (by assumption))))) hms N.out.2.1 (fun i hi => (N.out.2.2 i hi).2.2.2)).mono ?_; rintro e w' ⟨rfl, rfl⟩))
            go_ret2
            rw [H.out.1, H.out.2]
            exact ⟨rfl, by repeat (first | exact Below.refl _ _ | assumption | apply bl_alloc | apply bl_drewN | apply Below.drew | (refine bl_set ?_ (by first | exact Nat.le_refl _ | (simp; done) | (simp; omega)) _) | (refine bl_trans ?_ (by assumption)))⟩
          · cases k6 : hasB side s
            · have H := Lib.hid (fp_6 k1 k2 k3 k4 k6)
              subst k3
              go_enter Try.func35, Try.ntmps35
              go_wp2_with (first | (go_at_call 58; refine (l04Code_any _ w.heap.size (jn : Int) s A fs.length k fl (by first | exact x0 | simp [go_sem]) (by first | exact x1 | simp [go_sem]) (HA.out.below (by repeat (first | exact Below.refl _ _ | assumption | apply bl_alloc | apply bl_drewN | apply Below.drew | (refine bl_set ?_ (by first | exact Nat.le_refl _ | (simp; done) | (simp; omega)) _) | (refine bl_trans ?_ (by assumption))))) HL.out hm).mono ?_; rintro e w1 ⟨rfl, hb1⟩; have kx : w1.heap[w.heap.size]? = some (.cells #[.int .i64 (jn : Int), .slice A fs.length k] 29 (0, 0)) := keep_blk (hb := hb1) (h := by first | exact kx | exact heap_alloc_new _ _); obtain ⟨x0, x1, xl⟩ := row_two kx) | (go_at_call 54; refine (l00Rises_any _ _ _ _ _ _ (HS.out.below (by repeat (first | exact Below.refl _ _ | assumption | apply bl_alloc | apply bl_drewN | apply Below.drew | (refine bl_set ?_ (by first | exact Nat.le_refl _ | (simp; done) | (simp; omega)) _) | (refine bl_trans ?_ (by assumption))))) hms).mono ?_; rintro e w' ⟨rfl, dd, rfl⟩) | (go_at_call 59; refine (specLead _ w.heap.size jn s A F k c fl fs (by first | exact x0 | simp [go_sem, x0]) (by first | exact x1 | simp [go_sem, x1]) (HA.out.below (by repeat (first | exact Below.refl _ _ | assumption | apply bl_alloc | apply bl_drewN | apply Below.drew | (refine bl_set ?_ (by first | exact Nat.le_refl _ | (simp; done) | (simp; omega)) _) | (refine bl_trans ?_ (by assumption))))) HL.out (HF.out.below (by repeat (first | exact Below.refl _ _ | assumption | apply bl_alloc | apply bl_drewN | apply Below.drew | (refine bl_set ?_ (by first | exact Nat.le_refl _ | (simp; done) | (simp; omega)) _) | (refine bl_trans ?_ (by assumption))))) ⟨jl, jh⟩ SR.out N.out.2.1 N.out.2.2).mono ?_; rintro e w3 ⟨xr, rfl, hxr, hb3⟩; have kx : w3.heap[w.heap.size]? = some (.cells #[.int .i64 (jn : Int), .slice A fs.length k] 29 (0, 0)) := keep_blk (hb := hb3) (h := by first | exact kx | exact heap_alloc_new _ _); obtain ⟨x0, x1, xl⟩ := row_two kx) | (go_at_call 65; refine (l00Has_any _ _ _ _ _ (HS.out.below (by repeat (first | exact Below.refl _ _ | assumption | apply bl_alloc | apply bl_drewN | apply Below.drew | (refine bl_set ?_ (by first | exact Nat.le_refl _ | (simp; done) | (simp; omega)) _) | (refine bl_trans ?_ (by assumption))))) hms).mono ?_; rintro e w' ⟨rfl, rfl⟩) | (go_at_call 55; refine (specCut _ w.heap.size (jn : Int) A _ fs.length k _ fl _ (by first | exact x0 | simp [go_sem, x0]) (by first | exact x1 | simp [go_sem, x1]) (HA.out.below (by repeat (first | exact Below.refl _ _ | assumption | apply bl_alloc | apply bl_drewN | apply Below.drew | (refine bl_set ?_ (by first | exact Nat.le_refl _ | (simp; done) | (simp; omega)) _) | (refine bl_trans ?_ (by assumption))))) HL.out hm (HS.out.below (by repeat (first | exact Below.refl _ _ | assumption | apply bl_alloc | apply bl_drewN | apply Below.drew | (refine bl_set ?_ (by first | exact Nat.le_refl _ | (simp; done) | (simp; omega)) _) | (refine bl_trans ?_ (by assumption))))) hms N.out.2.1 (fun i hi => (N.out.2.2 i hi).2.2.2)).mono ?_; rintro e w' ⟨rfl, rfl⟩))
              go_ret2
              rw [H.out.1, H.out.2]
              exact ⟨rfl, by repeat (first | exact Below.refl _ _ | assumption | apply bl_alloc | apply bl_drewN | apply Below.drew | (refine bl_set ?_ (by first | exact Nat.le_refl _ | (simp; done) | (simp; omega)) _) | (refine bl_trans ?_ (by assumption)))⟩
            · cases k7 : hasB side 0
              · have H := Lib.hid (fp_8 k1 k2 k3 k4 k5 k6 k7)
                subst k3
                have LI := Lib.hid (ld_flIn k5)
                go_enter Try.func35, Try.ntmps35
                go_wp2_with (first | (go_at_call 58; refine (l04Code_any _ w.heap.size (jn : Int) s A fs.length k fl (by first | exact x0 | simp [go_sem]) (by first | exact x1 | simp [go_sem]) (HA.out.below (by repeat (first | exact Below.refl _ _ | assumption | apply bl_alloc | apply bl_drewN | apply Below.drew | (refine bl_set ?_ (by first | exact Nat.le_refl _ | (simp; done) | (simp; omega)) _) | (refine bl_trans ?_ (by assumption))))) HL.out hm).mono ?_; rintro e w1 ⟨rfl, hb1⟩; have kx : w1.heap[w.heap.size]? = some (.cells #[.int .i64 (jn : Int), .slice A fs.length k] 29 (0, 0)) := keep_blk (hb := hb1) (h := by first | exact kx | exact heap_alloc_new _ _); obtain ⟨x0, x1, xl⟩ := row_two kx) | (go_at_call 54; refine (l00Rises_any _ _ _ _ _ _ (HS.out.below (by repeat (first | exact Below.refl _ _ | assumption | apply bl_alloc | apply bl_drewN | apply Below.drew | (refine bl_set ?_ (by first | exact Nat.le_refl _ | (simp; done) | (simp; omega)) _) | (refine bl_trans ?_ (by assumption))))) hms).mono ?_; rintro e w' ⟨rfl, dd, rfl⟩) | (go_at_call 59; refine (specLead _ w.heap.size jn s A F k c fl fs (by first | exact x0 | simp [go_sem, x0]) (by first | exact x1 | simp [go_sem, x1]) (HA.out.below (by repeat (first | exact Below.refl _ _ | assumption | apply bl_alloc | apply bl_drewN | apply Below.drew | (refine bl_set ?_ (by first | exact Nat.le_refl _ | (simp; done) | (simp; omega)) _) | (refine bl_trans ?_ (by assumption))))) HL.out (HF.out.below (by repeat (first | exact Below.refl _ _ | assumption | apply bl_alloc | apply bl_drewN | apply Below.drew | (refine bl_set ?_ (by first | exact Nat.le_refl _ | (simp; done) | (simp; omega)) _) | (refine bl_trans ?_ (by assumption))))) ⟨jl, jh⟩ SR.out N.out.2.1 N.out.2.2).mono ?_; rintro e w3 ⟨xr, rfl, hxr, hb3⟩; have kx : w3.heap[w.heap.size]? = some (.cells #[.int .i64 (jn : Int), .slice A fs.length k] 29 (0, 0)) := keep_blk (hb := hb3) (h := by first | exact kx | exact heap_alloc_new _ _); obtain ⟨x0, x1, xl⟩ := row_two kx; obtain rfl := hxr k5) | (go_at_call 65; refine (l00Has_any _ _ _ _ _ (HS.out.below (by repeat (first | exact Below.refl _ _ | assumption | apply bl_alloc | apply bl_drewN | apply Below.drew | (refine bl_set ?_ (by first | exact Nat.le_refl _ | (simp; done) | (simp; omega)) _) | (refine bl_trans ?_ (by assumption))))) hms).mono ?_; rintro e w' ⟨rfl, rfl⟩) | (go_at_call 55; refine (specCut _ w.heap.size (jn : Int) A _ fs.length k _ fl _ (by first | exact x0 | simp [go_sem, x0]) (by first | exact x1 | simp [go_sem, x1]) (HA.out.below (by repeat (first | exact Below.refl _ _ | assumption | apply bl_alloc | apply bl_drewN | apply Below.drew | (refine bl_set ?_ (by first | exact Nat.le_refl _ | (simp; done) | (simp; omega)) _) | (refine bl_trans ?_ (by assumption))))) HL.out hm (HS.out.below (by repeat (first | exact Below.refl _ _ | assumption | apply bl_alloc | apply bl_drewN | apply Below.drew | (refine bl_set ?_ (by first | exact Nat.le_refl _ | (simp; done) | (simp; omega)) _) | (refine bl_trans ?_ (by assumption))))) hms N.out.2.1 (fun i hi => (N.out.2.2 i hi).2.2.2)).mono ?_; rintro e w' ⟨rfl, rfl⟩))
                go_ret2
                rw [H.out.1, H.out.2]
                exact ⟨congrArg (fun b => Ending.returned (.tuple #[.bool b, .int .i64 0])) (Bool.beq_comm (a := cutTo fl side fs.length) (b := outTo fl fs s fs.length)), by repeat (first | exact Below.refl _ _ | assumption | apply bl_alloc | apply bl_drewN | apply Below.drew | (refine bl_set ?_ (by first | exact Nat.le_refl _ | (simp; done) | (simp; omega)) _) | (refine bl_trans ?_ (by assumption)))⟩
              · have H := Lib.hid (fp_7 k1 k2 k3 k4 k7)
                subst k3
                go_enter Try.func35, Try.ntmps35
                go_wp2_with (first | (go_at_call 58; refine (l04Code_any _ w.heap.size (jn : Int) s A fs.length k fl (by first | exact x0 | simp [go_sem]) (by first | exact x1 | simp [go_sem]) (HA.out.below (by repeat (first | exact Below.refl _ _ | assumption | apply bl_alloc | apply bl_drewN | apply Below.drew | (refine bl_set ?_ (by first | exact Nat.le_refl _ | (simp; done) | (simp; omega)) _) | (refine bl_trans ?_ (by assumption))))) HL.out hm).mono ?_; rintro e w1 ⟨rfl, hb1⟩; have kx : w1.heap[w.heap.size]? = some (.cells #[.int .i64 (jn : Int), .slice A fs.length k] 29 (0, 0)) := keep_blk (hb := hb1) (h := by first | exact kx | exact heap_alloc_new _ _); obtain ⟨x0, x1, xl⟩ := row_two kx) | (go_at_call 54; refine (l00Rises_any _ _ _ _ _ _ (HS.out.below (by repeat (first | exact Below.refl _ _ | assumption | apply bl_alloc | apply bl_drewN | apply Below.drew | (refine bl_set ?_ (by first | exact Nat.le_refl _ | (simp; done) | (simp; omega)) _) | (refine bl_trans ?_ (by assumption))))) hms).mono ?_; rintro e w' ⟨rfl, dd, rfl⟩) | (go_at_call 59; refine (specLead _ w.heap.size jn s A F k c fl fs (by first | exact x0 | simp [go_sem, x0]) (by first | exact x1 | simp [go_sem, x1]) (HA.out.below (by repeat (first | exact Below.refl _ _ | assumption | apply bl_alloc | apply bl_drewN | apply Below.drew | (refine bl_set ?_ (by first | exact Nat.le_refl _ | (simp; done) | (simp; omega)) _) | (refine bl_trans ?_ (by assumption))))) HL.out (HF.out.below (by repeat (first | exact Below.refl _ _ | assumption | apply bl_alloc | apply bl_drewN | apply Below.drew | (refine bl_set ?_ (by first | exact Nat.le_refl _ | (simp; done) | (simp; omega)) _) | (refine bl_trans ?_ (by assumption))))) ⟨jl, jh⟩ SR.out N.out.2.1 N.out.2.2).mono ?_; rintro e w3 ⟨xr, rfl, hxr, hb3⟩; have kx : w3.heap[w.heap.size]? = some (.cells #[.int .i64 (jn : Int), .slice A fs.length k] 29 (0, 0)) := keep_blk (hb := hb3) (h := by first | exact kx | exact heap_alloc_new _ _); obtain ⟨x0, x1, xl⟩ := row_two kx) | (go_at_call 65; refine (l00Has_any _ _ _ _ _ (HS.out.below (by repeat (first | exact Below.refl _ _ | assumption | apply bl_alloc | apply bl_drewN | apply Below.drew | (refine bl_set ?_ (by first | exact Nat.le_refl _ | (simp; done) | (simp; omega)) _) | (refine bl_trans ?_ (by assumption))))) hms).mono ?_; rintro e w' ⟨rfl, rfl⟩) | (go_at_call 55; refine (specCut _ w.heap.size (jn : Int) A _ fs.length k _ fl _ (by first | exact x0 | simp [go_sem, x0]) (by first | exact x1 | simp [go_sem, x1]) (HA.out.below (by repeat (first | exact Below.refl _ _ | assumption | apply bl_alloc | apply bl_drewN | apply Below.drew | (refine bl_set ?_ (by first | exact Nat.le_refl _ | (simp; done) | (simp; omega)) _) | (refine bl_trans ?_ (by assumption))))) HL.out hm (HS.out.below (by repeat (first | exact Below.refl _ _ | assumption | apply bl_alloc | apply bl_drewN | apply Below.drew | (refine bl_set ?_ (by first | exact Nat.le_refl _ | (simp; done) | (simp; omega)) _) | (refine bl_trans ?_ (by assumption))))) hms N.out.2.1 (fun i hi => (N.out.2.2 i hi).2.2.2)).mono ?_; rintro e w' ⟨rfl, rfl⟩))
                go_ret2
                rw [H.out.1, H.out.2]
                exact ⟨rfl, by repeat (first | exact Below.refl _ _ | assumption | apply bl_alloc | apply bl_drewN | apply Below.drew | (refine bl_set ?_ (by first | exact Nat.le_refl _ | (simp; done) | (simp; omega)) _) | (refine bl_trans ?_ (by assumption)))⟩
      · have H := Lib.hid (fp_3 (side := side) k1 k2 k3)
        have k3' : ((fs.length : Int) != (n : Int)) = true := bneI_yes (by omega)
        go_enter Try.func35, Try.ntmps35
        go_wp2_with ((go_at_call 58; refine (l04Code_any _ w.heap.size (jn : Int) s A n k fl (by first | exact x0 | simp [go_sem]) (by first | exact x1 | simp [go_sem]) (HA.out.below (by repeat (first | exact Below.refl _ _ | assumption | apply bl_alloc | apply bl_drewN | apply Below.drew | (refine bl_set ?_ (by first | exact Nat.le_refl _ | (simp; done) | (simp; omega)) _) | (refine bl_trans ?_ (by assumption))))) HL.out hm).mono ?_; rintro e w1 ⟨rfl, hb1⟩; have kx : w1.heap[w.heap.size]? = some (.cells #[.int .i64 (jn : Int), .slice A n k] 29 (0, 0)) := keep_blk (hb := hb1) (h := by first | exact kx | exact heap_alloc_new _ _); obtain ⟨x0, x1, xl⟩ := row_two kx))
        go_ret2
        rw [H.out.1, H.out.2]
        exact ⟨rfl, by repeat (first | exact Below.refl _ _ | assumption | apply bl_alloc | apply bl_drewN | apply Below.drew | (refine bl_set ?_ (by first | exact Nat.le_refl _ | (simp; done) | (simp; omega)) _) | (refine bl_trans ?_ (by assumption)))⟩
end Go.Proofs.Ythgdiddgooippaa
