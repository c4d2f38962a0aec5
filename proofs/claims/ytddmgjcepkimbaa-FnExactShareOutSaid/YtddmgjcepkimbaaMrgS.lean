/-
  Contract on the library's stable sort: merging two sorted parts. It holds for every row whose length is small.
-/
import Derived.Test.YtddmgjcepkimbaaMrg
import Derived.Deep.DeepCutAuto
namespace Go.Proofs.Ytddmgjcepkimbaa
set_option linter.unusedVariables false
set_option linter.unusedSimpArgs false
open Go.RowKit

open Go.Shelf Go.Lib Go.Sort
variable {α : Type} [Inhabited α] {enc : α → Value}
set_option maxHeartbeats 3200000 in
set_option maxRecDepth 100000 in
theorem symMerge_any {L lt : α → α → Bool} (hS0 : SWO L) (g : Nat) (lb : Array Value) (sf : Nat) (sb : Array Value) (blk off : Nat) (eg : ∀ args w, (callFunc g args).run Try.prog w = .ok (.enter g args) w) (D : Nat) (hD : D < 4611686018427387904) (hswap0 : SwapSwaps Try.prog sf sb enc blk off D) :
    ∀ (N a m b : Nat) (d : Array α) (w : World), b - a = N → LessReads Try.prog g lb enc lt blk off D w → Holds enc w blk off d → blk < w.heap.size → d.size = D → a < m → m < b → b ≤ D → SortedIn L a m d → SortedIn L m b d → Cross lt L a m b d →
    Calls Try.prog 33 #[.agg #[.func (.func g) #[] lb, .func (.func sf) #[] sb], .int .i64 a, .int .i64 m, .int .i64 b] w fun e w' => e = .returned (.tuple #[]) ∧ ∃ d', SW enc w blk off d' w' ∧ PermIn a b d d' ∧ SortedIn L a b d' := by
  have hswap := Lib.hid hswap0
  have HS := Lib.hid hS0
  clear hswap0 hS0
  intro N
  induction N using Nat.strongRecOn with
  | _ N ih =>
  have IH := Lib.hid ih
  clear ih
  intro a m b d w hN hless0 hH hblk hd ham hmb hb h1 h2 hC
  by_cases hm1 : m = a + 1
  · exact symL_any HS.out g lb sf sb blk off eg D hD hswap.out a m b d w hm1 hless0 hH hblk hd ham hmb hb h1 h2 hC
  by_cases hm2 : b = m + 1
  · exact symR_any HS.out g lb sf sb blk off eg D hD hswap.out a m b d w ⟨hm1, hm2⟩ hless0 hH hblk hd ham hmb hb h1 h2 hC
  have H1 := Lib.hid h1
  have H2 := Lib.hid h2
  have HC := Lib.hid hC
  have hSW := (SW.start hH).alloc (.cells #[.func (.func g) #[] lb, .func (.func sf) #[] sb] 47)
  have HH := Lib.hid (hSW.holds hblk hH rfl : Holds enc (w.alloc (.cells #[.func (.func g) #[] lb, .func (.func sf) #[] sb] 47)) blk off d)
  have HL := Lib.hid (hSW.lessReads hless0 hblk hd)
  have hb1 : blk < (w.alloc (.cells #[.func (.func g) #[] lb, .func (.func sf) #[] sb] 47)).heap.size := hSW.lt hblk
  clear hSW hH hless0 h1 h2 hC
  have hg1 : ((m : Int) - (a : Int) == 1) = false := by simp; omega
  have hg2 : ((b : Int) - (m : Int) == 1) = false := by simp; omega
  obtain ⟨mid, hmid1, hmid2⟩ : ∃ mid, 2 * mid ≤ a + b ∧ a + b ≤ 2 * mid + 1 := ⟨(a + b) / 2, by omega, by omega⟩
  have hme : ((a : Int) + (b : Int)) / 2 = (mid : Int) := by omega
  go_enter Try.func33, Try.ntmps33
  go_upto_if 106 with fail
  go_cut [18, 19] (fun v18 v19 wx => ∃ s0 r0 : Nat, v18 = .int .i64 (s0 : Int) ∧ v19 = .int .i64 (r0 : Int) ∧ Hid (Bnd a m b mid s0 r0) ∧ wx = w.alloc (.cells #[.func (.func g) #[] lb, .func (.func sf) #[] sb] 47))
  case first =>
    by_cases hmm : mid < m
    · have hs0 : (mid : Int) + (m : Int) - (b : Int) = ((mid + m - b : Nat) : Int) := by omega
      go_wp2
      go_meet
      exact ⟨mid + m - b, mid, by first | rfl | rw [hs0], rfl, Lib.hid ⟨.inl ⟨hmm, by omega, rfl⟩, hmid1, hmid2, ham, hmb⟩, rfl⟩
    · go_wp2
      go_meet
      exact ⟨a, m, rfl, rfl, Lib.hid ⟨.inr ⟨by omega, rfl, rfl⟩, hmid1, hmid2, ham, hmb⟩, rfl⟩
  case rest =>
    obtain ⟨s0, r0, rfl, rfl, HB, rfl⟩ := hcut
    have HI := Lib.hid HB.out.in
    have bn1 := HI.out.1
    have bn2 := HI.out.2.1
    have bn3 := HI.out.2.2.1
    have bn4 := HI.out.2.2.2.1
    have bn5 : mid + m ≤ s0 + b := by rcases HB.out.x with ⟨_, x, _⟩ | ⟨_, x, _⟩ <;> omega
    obtain ⟨p, hp⟩ : ∃ p, mid + m - 1 = p := ⟨_, rfl⟩
    have hpe : (mid : Int) + (m : Int) - 1 = (p : Int) := by omega
    have HM : Hid (Mono (T3 lt d p) s0 r0) := Lib.hid (by rw [← hp]; exact mono3 HS.out H1.out H2.out HC.out HI.out.2.2.2.2)
    have HP0 := Lib.hid hp
    go_wp2
    go_loopg [18, 19] (r0 - s0) (fun gm vi vj wr => ∃ s r, gm = r - s ∧ vi = .int .i64 (s : Int) ∧ vj = .int .i64 (r : Int) ∧ Hid (Srch (T3 lt d p) s0 r0 s r) ∧ s0 ≤ s ∧ s ≤ r ∧ r ≤ r0 ∧ Hid (SW enc (w.alloc (.cells #[.func (.func g) #[] lb, .func (.func sf) #[] sb] 47)) blk off d wr))
    case atStart => exact ⟨s0, r0, rfl, rfl, rfl, Lib.hid (Srch.start bn2), Nat.le_refl _, bn2, Nat.le_refl _, Lib.hid (SW.start HH.out)⟩
    case round =>
      obtain ⟨s, r, hgk, rfl, rfl, HT, hs0, hsr, hr0, HW⟩ := hrel
      have HGK := Lib.hid hgk
      clear hgk
      have c0 : wr.cell? ⟨w.heap.size, 0, none⟩ = some (.func (.func g) #[] lb) := by rw [sw_cell HW.out (by simp) (by omega)]; simp
      have c1 : wr.cell? ⟨w.heap.size, 1, none⟩ = some (.func (.func sf) #[] sb) := by rw [sw_cell HW.out (by simp) (by omega)]; simp
      by_cases hlt : s < r
      · have hq := HI.out.2.2.2.2 ((s + r) / 2) (by omega) (by omega)
        have hl := HW.out.less HL.out hd (p - (s + r) / 2) ((s + r) / 2) (by omega) (by omega)
        rw [show (((p - (s + r) / 2 : Nat)) : Int) = (p : Int) - ((s : Int) + (r : Int)) / 2 by omega, show ((((s + r) / 2 : Nat)) : Int) = ((s : Int) + (r : Int)) / 2 by omega] at hl
        clear hq
        cases hT : T3 lt d p ((s + r) / 2)
        · have HT2 := Lib.hid (HT.out.down HM.out (by omega) (by omega) hT)
          unfold T3 at hT
          rw [show lt d[p - (s + r) / 2]! d[(s + r) / 2]! = true by simpa using hT] at hl
          clear hT
          go_wp2_with (go_at_fn g; refine hl.mono ?_; rintro e w2 ⟨rfl, q, rfl⟩)
          go_roundg ((s + r) / 2 - s)
          case measure => rw [HGK.out]; omega
          case rel => exact ⟨s, (s + r) / 2, rfl, rfl, by go_num, HT2, hs0, by omega, by omega, Lib.hid (HW.out.drewN q)⟩
        · have HT2 := Lib.hid (HT.out.up HM.out (by omega) (by omega) hT)
          unfold T3 at hT
          rw [show lt d[p - (s + r) / 2]! d[(s + r) / 2]! = false by simpa using hT] at hl
          clear hT
          go_wp2_with (go_at_fn g; refine hl.mono ?_; rintro e w2 ⟨rfl, q, rfl⟩)
          go_roundg (r - ((s + r) / 2 + 1))
          case measure => rw [HGK.out]; omega
          case rel => exact ⟨(s + r) / 2 + 1, r, rfl, by go_num, rfl, HT2, by omega, by omega, hr0, Lib.hid (HW.out.drewN q)⟩
      · obtain rfl : s = r := by omega
        obtain ⟨t, ht⟩ : ∃ t, mid + m - s = t := ⟨_, rfl⟩
        have hte : (mid : Int) + (m : Int) - (s : Int) = (t : Int) := by omega
        have ht2 : t + s = mid + m := by omega
        have HE : Hid ((∀ i j, a ≤ i → i < s → t ≤ j → j < b → L d[j]! d[i]! = false) ∧ (∀ i j, s ≤ i → i < m → m ≤ j → j < t → L d[i]! d[j]! = false)) := Lib.hid (by rw [← ht]; exact end3 HS.out HB.out H1.out H2.out HC.out (by rw [HP0.out]; exact HT.out))
        clear hp ht hpe
        go_upto_region 40 with fail
        go_cut [145] (fun v wx => ∃ bq : Bool, v = .bool bq ∧ Hid (bq = decide (s < m ∧ m < t)) ∧ wx = wr)
        case first =>
          by_cases hsm : s < m
          · by_cases hmt : m < t
            · have hq : decide (s < m ∧ m < t) = true := by simp [hsm, hmt]
              go_wp2
              go_meet
              exact ⟨true, rfl, Lib.hid hq.symm, rfl⟩
            · have hq : decide (s < m ∧ m < t) = false := by simp [hmt]
              go_wp2
              go_meet
              exact ⟨false, rfl, Lib.hid hq.symm, rfl⟩
          · have hq : decide (s < m ∧ m < t) = false := by simp [hsm]
            go_wp2
            go_meet
            exact ⟨false, rfl, Lib.hid hq.symm, rfl⟩
        case rest =>
        obtain ⟨bq, rfl, HBQ, rfl⟩ := hcut
        obtain ⟨wr, rfl⟩ : ∃ x : World, x = wc := ⟨_, rfl⟩
        go_upto_if 145 with fail
        go_cut [22] (fun v22 wx => ∃ e, v22 = .int .i64 (t : Int) ∧ Hid (SW enc (w.alloc (.cells #[.func (.func g) #[] lb, .func (.func sf) #[] sb] 47)) blk off e wx) ∧ Hid (Rot s m t d e))
        case first =>
          cases bq
          · have hno : ¬ (s < m ∧ m < t) := by simpa using HBQ.out
            go_wp2
            go_meet
            by_cases hsm : s < m
            · obtain rfl : t = m := by omega
              exact ⟨d, rfl, HW, Lib.hid (Rot.none_r d)⟩
            · obtain rfl : s = m := by omega
              exact ⟨d, rfl, HW, Lib.hid (Rot.none_l d)⟩
          · have hyes : s < m ∧ m < t := by simpa using HBQ.out
            obtain ⟨hsm, hmt⟩ := hyes
            have hr := Lib.hid (rotate_any (enc := enc) (.func g) #[] lb sf sb blk off s m t d wr (hd.symm ▸ hswap.out) (HW.out.holds hb1 HH.out rfl) (HW.out.lt hb1) hsm hmt (by omega) (by omega))
            go_wp2_with (go_at_call 34; refine hr.out.mono ?_; rintro e w2 ⟨rfl, e, hw2, hp2⟩)
            go_meet
            exact ⟨e, rfl, Lib.hid (sw_trans HW.out hw2 hb1 hp2.perm.1), Lib.hid hp2⟩
        case rest =>
          clear HT c0 c1 HW
          obtain ⟨e, rfl, HW, HR⟩ := hcut
          obtain ⟨wr, rfl⟩ : ∃ x : World, x = wc := ⟨_, rfl⟩
          have HK := Lib.hid (cut_rot ht2 (by omega) (by omega) (by omega) (by omega) (by omega) H1.out H2.out HC.out HR.out HE.out.1 HE.out.2)
          have he : e.size = D := HR.out.perm.1.trans hd
          have c0 : wr.cell? ⟨w.heap.size, 0, none⟩ = some (.func (.func g) #[] lb) := by rw [sw_cell HW.out (by simp) (by omega)]; simp
          have c1 : wr.cell? ⟨w.heap.size, 1, none⟩ = some (.func (.func sf) #[] sb) := by rw [sw_cell HW.out (by simp) (by omega)]; simp
          go_upto_region 42 with fail
          go_cut [158] (fun v wx => ∃ bq : Bool, v = .bool bq ∧ Hid (bq = decide (a < s ∧ s < mid)) ∧ wx = wr)
          case first =>
            by_cases has : a < s
            · by_cases hsm : s < mid
              · have hq : decide (a < s ∧ s < mid) = true := by simp [has, hsm]
                go_wp2
                go_meet
                exact ⟨true, rfl, Lib.hid hq.symm, rfl⟩
              · have hq : decide (a < s ∧ s < mid) = false := by simp [hsm]
                go_wp2
                go_meet
                exact ⟨false, rfl, Lib.hid hq.symm, rfl⟩
            · have hq : decide (a < s ∧ s < mid) = false := by simp [has]
              go_wp2
              go_meet
              exact ⟨false, rfl, Lib.hid hq.symm, rfl⟩
          case rest =>
          obtain ⟨bq, rfl, HBQ2, rfl⟩ := hcut
          obtain ⟨wr, rfl⟩ : ∃ x : World, x = wc := ⟨_, rfl⟩
          go_upto_if 158 with fail
          go_cut [22] (fun v22 wx => ∃ e1, v22 = .int .i64 (t : Int) ∧ Hid (SW enc (w.alloc (.cells #[.func (.func g) #[] lb, .func (.func sf) #[] sb] 47)) blk off e1 wx) ∧ Hid (PermIn a mid e e1) ∧ Hid (SortedIn L a mid e1))
          case first =>
            cases bq
            · have hno : ¬ (a < s ∧ s < mid) := by simpa using HBQ2.out
              have HSS : Hid (SortedIn L a mid e) := Lib.hid (by
                by_cases has : a < s
                · have e1 : s = mid := (by omega)
                  subst e1; exact HK.out.s1
                · have e1 : s = a := (by omega)
                  subst e1; exact HK.out.s2)
              go_wp2
              go_meet
              exact ⟨e, rfl, HW, Lib.hid (permIn_refl e _ _), HSS⟩
            · have hyes : a < s ∧ s < mid := by simpa using HBQ2.out
              obtain ⟨has, hsm⟩ := hyes
              have hr := Lib.hid (IH.out (mid - a) (by omega) a s mid e wr rfl (HW.out.lessReads HL.out hb1 he) (HW.out.holds hb1 HH.out (he.trans hd.symm)) (HW.out.lt hb1) he has hsm (by omega) HK.out.s1 HK.out.s2 HK.out.c1)
              go_wp2_with (go_at_call 33; refine hr.out.mono ?_; rintro e' w2 ⟨rfl, e1, hw2, hp2, hs2⟩)
              go_meet
              exact ⟨e1, rfl, Lib.hid (sw_trans HW.out hw2 hb1 hp2.1), Lib.hid hp2, Lib.hid hs2⟩
          case rest =>
            clear c0 c1 HW
            obtain ⟨e1, rfl, HW, HP1, HS1⟩ := hcut
            obtain ⟨wr, rfl⟩ : ∃ x : World, x = wc := ⟨_, rfl⟩
            have he1 : e1.size = D := HP1.out.1.trans he
            have HLE := Lib.hid (le_keep (p := fun x y => L y x = false) HK.out.le (by omega) (by omega) (.inl HP1.out))
            have HPA := Lib.hid (permIn_trans _ _ _ a b (permIn_mono _ _ s t a b (by omega) (by omega) (by omega) HR.out.perm) (permIn_mono _ _ a mid a b (Nat.le_refl _) (by omega) (by omega) HP1.out))
            have HS3 := Lib.hid (sorted_keep HK.out.s3 HP1.out (.inr (Nat.le_refl _)))
            have HS4 := Lib.hid (sorted_keep HK.out.s4 HP1.out (.inr (by omega)))
            have HC2 := Lib.hid (cross_keep HK.out.c2 HP1.out (.inr (Nat.le_refl _)))
            have c0 : wr.cell? ⟨w.heap.size, 0, none⟩ = some (.func (.func g) #[] lb) := by rw [sw_cell HW.out (by simp) (by omega)]; simp
            have c1 : wr.cell? ⟨w.heap.size, 1, none⟩ = some (.func (.func sf) #[] sb) := by rw [sw_cell HW.out (by simp) (by omega)]; simp
            by_cases hmt : mid < t
            · by_cases htb : t < b
              · have hr := Lib.hid (IH.out (b - mid) (by omega) mid t b e1 wr rfl (HW.out.lessReads HL.out hb1 he1) (HW.out.holds hb1 HH.out (he1.trans hd.symm)) (HW.out.lt hb1) he1 hmt htb hb HS3.out HS4.out HC2.out)
                go_wp2_with (go_at_call 33; refine hr.out.mono ?_; rintro e' w2 ⟨rfl, e2, hw2, hp2, hs2⟩)
                go_end0
                refine ⟨rfl, e2, sw_unalloc (sw_trans HW.out hw2 hb1 hp2.1) hblk, permIn_trans _ _ _ _ _ HPA.out (permIn_mono _ _ mid b a b (by omega) (Nat.le_refl _) (by omega) hp2), sorted_join (mid := mid) (sorted_keep HS1.out hp2 (.inl (Nat.le_refl _))) hs2 (le_keep (p := fun x y => L y x = false) HLE.out (by omega) (by omega) (.inr hp2))⟩
              · go_wp2
                go_end0
                exact ⟨rfl, e1, sw_unalloc HW.out hblk, HPA.out, sorted_join HS1.out (by have e2 : t = b := (by omega); subst e2; exact HS3.out) HLE.out⟩
            · go_wp2
              go_end0
              exact ⟨rfl, e1, sw_unalloc HW.out hblk, HPA.out, sorted_join HS1.out (by have e2 : t = mid := (by omega); subst e2; exact HS4.out) HLE.out⟩
end Go.Proofs.Ytddmgjcepkimbaa
