/-
  The law 'FnExactSplitWords' holds for every input: the words of a text are the reference's. No condition.
  The frame follows the kit's template for such a statement; the walk is ours.
-/
import Derived.Test.YtfkleaagpflpkaaDoorRows
import Derived.Test.YtfkleaagpflpkaaDoorSplitImpl
import Derived.Test.YtfkleaagpflpkaaDoorMarkT
import Derived.Test.YtfkleaagpflpkaaDoorOpen
import Derived.Test.YtfkleaagpflpkaaDoorCards
import Derived.Test.YtfkleaagpflpkaaDoorTie
import Derived.Lib.SmallJoins
import Derived.LaidMore
import Derived.Lib.LaidTab
import Derived.ProofKit
import Derived.OpenShut
import Derived.Stop.Joined
import Derived.Stop.LaidErr
import Derived.SevenTiedAt
import Derived.Lay
import Derived.Shelf.Vars
namespace Go.Proofs.YtfkleaagpflpkaaDoor.fnExactSplitWords
open Go.ChangeShapes Go.WideShapes Go.ChangeAt Go.RowKit Go.Joins
open Go.ChangeMaps (open_string shut_string)
set_option linter.unusedVariables false
theorem own_blk {w0 wr : World} {g c n : Nat} {xs : List (List UInt8)} (h : OwnS w0 wr (.slice (some ⟨g, 0, none⟩) n c) xs) : w0.heap.size ≤ g ∧ RowT wr g xs ∧ ∃ cur, wr.heap[g]? = some (.cells cur 9 (0, 0)) ∧ xs.length ≤ cur.size := by
  have h1 := h.2
  rcases h1 with ⟨hv, _⟩ | ⟨g', cap, cur, hv, hb, hg, hn, hm, hs, ht⟩
  · cases hv
  · cases hv
    refine ⟨hb, ⟨(Array.getElem?_eq_some_iff.1 hg).1, fun j x hx => ?_⟩, cur, hg, by omega⟩
    have hj : j < xs.length := (List.getElem?_eq_some_iff.1 hx).1
    rw [cell_of_row wr g j cur _ (0, 0) hg]
    have : (cur.toList.take (xs.length * 1))[j]? = (xs.map sV)[j]? := by rw [ht]
    rw [List.getElem?_take, if_pos (by omega), List.getElem?_map, hx] at this
    simpa using this
theorem row_past {w W : World} {g b : Nat} {xs : List (List UInt8)} (h : RowT w g xs) (hb : Below b w W) (hg : g < b) : RowT W g xs :=
  ⟨Nat.lt_of_lt_of_le h.1 hb.size, fun j x hx => (hb.cell (p := ⟨g, j, none⟩) hg).trans (h.2 j x hx)⟩
theorem wds_len (l : List UInt8) : (wds l).length ≤ l.length + 1 := by
  have h1 := List.length_filter_le (fun x : List UInt8 => !x.isEmpty) (spl 32 l)
  have h2 := spl_len 32 l
  rw [wds]
  omega
set_option maxRecDepth 100000 in
set_option maxHeartbeats 3200000 in
theorem walk (s : ByteArray) (w : World) (ws : s.size ≤ 9223372036854775807) (m : Int) (hv : w.cell? ⟨3, 0, none⟩ = some (.int .i64 m)) :
    Calls Tryd.prog 5 #[.string s] w fun e w' => e = .returned (.bool true) ∧ Below w.heap.size w w' := by
  have hgv := World.block_lt_of_cell? w _ hv
  have HV := Lib.hid hv
  clear hv
  by_cases hm : s.size ≤ 1048576
  · have hn : (wds s.data.toList).length ≤ 1048577 := by
      have := wds_len s.data.toList
      rw [← Lib.size_eq] at this
      omega
    go_enter Tryd.func5, Tryd.ntmps5
    go_wp2_with fail
    refine (specWords _ s hm).mono ?_
    rintro e w1 ⟨v1, rfl, o1, n1, b1⟩
    obtain ⟨g1, c1, rfl⟩ := own_form o1 n1
    obtain ⟨-, r1, -⟩ := own_blk o1
    have z1 := b1.size
    clear o1 n1
    go_wp2_with fail
    refine (implWords _ s m hm ((b1.cell (p := ⟨3, 0, none⟩) hgv).trans HV.out)).mono ?_
    rintro e w2 ⟨v2, rfl, o2, n2, b2⟩
    obtain ⟨g2, c2, rfl⟩ := own_form o2 n2
    obtain ⟨q2, r2, cur, hg2, hs2⟩ := own_blk o2
    have z2 := b2.size
    have l1 := r1.1
    clear o2 n2
    have t2 := bl_trans b1 b2
    have HG2 := Lib.hid hg2
    have R1 := Lib.hid (r1.below b2)
    have R2 := Lib.hid r2
    clear hg2 r1 r2
    go_wp2_with fail
    refine (eqTexts _ g2 g1 c2 c1 _ R2.out R1.out hn).mono ?_
    rintro e w3 ⟨rfl, d3, rfl⟩
    go_wp2_with fail
    refine (markTexts (w2.drewN d3) g2 c2 _ 1 cur 9 HG2.out hs2 (Nat.le_refl _) (by omega) hn).mono ?_
    rintro e w4 ⟨rfl, M4, z4, O4, b4⟩
    have t4 : Below w.heap.size w w4 := (bl_drewN t2 d3).trans (b4.mono (by omega))
    have R4 := Lib.hid (row_past (R1.out.drewN d3) b4 (by omega))
    have RM := Lib.hid M4
    clear M4 O4
    go_wp2_with fail
    refine (heldTexts _ g2 c2 _ 1 RM.out (Nat.le_refl _) (by omega) hn).mono ?_
    rintro e w5 ⟨rfl, b5⟩
    have t5 := t4.trans (b5.mono (by have := t4.size; omega))
    go_wp2_with fail
    refine (implWords _ s m hm ((t5.cell (p := ⟨3, 0, none⟩) hgv).trans HV.out)).mono ?_
    rintro e w6 ⟨v6, rfl, o6, n6, b6⟩
    obtain ⟨g6, c6, rfl⟩ := own_form o6 n6
    obtain ⟨-, r6, -⟩ := own_blk o6
    clear o6 n6
    have t6 := t5.trans (b6.mono (by have := t5.size; omega))
    have R6 := Lib.hid r6
    clear r6
    go_wp2_with fail
    refine (eqTexts _ g6 g1 c6 c1 _ R6.out ((R4.out.below b5).below b6) hn).mono ?_
    rintro e w7 ⟨rfl, d7, rfl⟩
    go_wp2_with fail
    refine (heldTexts _ g2 c2 _ 1 (((RM.out.below b5).below b6).drewN d7) (Nat.le_refl _) (by omega) hn).mono ?_
    rintro e w8 ⟨rfl, b8⟩
    have t8 : Below w.heap.size w w8 := (bl_drewN t6 d7).trans (b8.mono (by have := t6.size; simpa using this))
    go_wp2_with fail
    go_ret
    exact ⟨rfl, t8⟩
  · go_enter Tryd.func5, Tryd.ntmps5
    go_wp2_with fail
    go_ret
    exact ⟨rfl, Below.refl _ _⟩

theorem own : ownKnob Tryd.prog.godebug = none := by kernel_rfl
theorem laidOut : laidOutB Tryd.prog = true := by kernel_rfl
theorem and_shaped {H : Type} {enc : TypeId × Value → H} {a : Assume} {C : Checked} {os : Os} {f : FuncId} {fn : Func} {s : ChangeSpec} {conds : List PathCond} {apart fresh handsOn again : Bool} {X : World → Array Value → Prop}
    (hX : ∀ (w w' : World) (args : Array Value), w.heap = w'.heap → X w args → X w' args)
    (own : ownKnob C.prog.godebug = none) (started : os.Started) (noInit : C.prog.inits.idxOf? f = none) (hfn : C.prog.funcs[f]? = some fn)
    (witness : ∃ (w : World) (tape : Tape) (i : Input), w.os = os ∧ (w.forCall tape i).Shaped C.prog ∧ i.vars = [] ∧ Input.okWide C.prog (w.forCall tape i) .any w.heap.size f i ∧
      ((s.pre enc C.prog fn conds apart (w.forCall tape i).memory i.args ∧ X (w.forCall tape i).memory i.args) ∧ sizedMet enc C.prog fn (OpenSpec.ofChange s) apart (w.forCall tape i).memory i.args) ∧ a.holds C.prog (lone (Frame.enter C.prog f i.args .normal) [] (w.forCall tape i)))
    (contract : ∀ (W : World) (base : Nat) (args : Array Value) (ds gs : List (DataW H)) (before : List MemPlace),
      (∀ (j : Nat) t v, fn.params[j]? = some t → args[j]? = some v → Value.okWide C.prog W .any base t v) →
      DataW.Whole enc C.prog fn.params.toList s.vars apart W args.toList ds gs before → X W args → W.ShapedOpen C.prog →
      Calls C.prog f args W fun e W' => ∃ v, e = .returned v ∧ s.post enc C.prog fn apart fresh handsOn again W args v W') :
    ReturnsInHanded a C os f .any (fun w args => (s.pre enc C.prog fn conds apart w args ∧ X w args) ∧ sizedMet enc C.prog fn (OpenSpec.ofChange s) apart w args) (s.post enc C.prog fn apart fresh handsOn again) := by
  refine returnsInHanded_of_calls own started noInit witness ?_
  intro w tape i _ hsh _ hok hpre _
  obtain ⟨_, _, _, fn', hfn', _, _, _, _, hval⟩ := hok
  obtain rfl : fn' = fn := Option.some.inj (hfn'.symm.trans hfn)
  obtain ⟨⟨⟨ds, gs, before, hw, _⟩, hx⟩, _⟩ := hpre
  refine (contract (w.forCall tape i) w.heap.size i.args ds gs before hval (DataW.Whole.of_heap (w' := w.forCall tape i) (by rfl) hw) (hX _ _ _ (by rfl) hx) hsh).mono fun e W' ⟨v, he, hp⟩ => ?_
  subst he
  exact ChangeSpec.post_blind hp
set_option maxRecDepth 100000 in
theorem door_met (os : Os) (args : Array Value) : laidMetH Tryd.prog Rows.fnExactSplitWordsRow.laid ((World.laidAll Tryd.prog os Rows.fnExactSplitWordsRow.laid).forCall (fun _ _ => 0) ⟨#[], args, []⟩).memory := by
  rw [MakeChecks.laidMetH_plain _ _ _ (by kernel_rfl)]
  exact laidMet_laidAll args (by kernel_rfl) (by kernel_rfl)
set_option maxRecDepth 100000 in
theorem lifted (os : Os) (started : os.Started) (H : Type) (enc : TypeId × Value → H) :
    ReturnsInHanded {} Tryd.checked os 5 .any (fun w args => (Rows.fnExactSplitWordsSpec.pre enc Tryd.prog Tryd.f5 [] false w args ∧ laidMetH Tryd.prog Rows.fnExactSplitWordsRow.laid w) ∧ sizedMet enc Tryd.prog Tryd.f5 (OpenSpec.ofChange Rows.fnExactSplitWordsSpec) false w args)
      (Rows.fnExactSplitWordsSpec.post enc Tryd.prog Tryd.f5 false true false false) := by
  refine and_shaped (C := Tryd.checked) (X := fun w _ => laidMetH Tryd.prog Rows.fnExactSplitWordsRow.laid w) (fun _ _ _ hh h => h.of_heap hh) own started (by kernel_rfl) Tryd.func5
    (ChangeSpec.witness_shaped (enc := enc) (C := Tryd.checked) (os := os) (X := fun w _ => laidMetH Tryd.prog Rows.fnExactSplitWordsRow.laid w) false (World.laidAll Tryd.prog os Rows.fnExactSplitWordsRow.laid) #[.string ByteArray.empty] 8 (World.laidAll_os _ _ _) (World.shaped_of_RefB (by kernel_rfl) (by kernel_rfl)) (by kernel_rfl) (by kernel_rfl) (by kernel_rfl) (door_met os _)) ?_
  intro W base args ds gs before hval0 hW hL hS
  rw [MakeChecks.laidMetH_plain _ _ _ (by kernel_rfl)] at hL
  have hval : ∀ (j : Nat) t v, Tryd.f5.params[j]? = some t → args[j]? = some v → Value.okWide Tryd.prog W .any base t v := hval0
  have hW' := hW
  obtain ⟨p, q, hA0, hV, rfl, hfz, hnd⟩ := hW
  have hA : DataW.TrodAll enc Tryd.prog W 0 (fun _ => true) true Tryd.f5.params.toList args.toList ds p := hA0
  rw [Tryd.params5] at hA hval
  obtain ⟨v0, vs0, d0, ds0, p0, q0, hargs, rfl, rfl, h0, r0⟩ := trodAll_cons hA
  obtain ⟨rfl, rfl, rfl⟩ := trodAll_nil r0
  obtain rfl : args = #[v0] := by cases args; simp_all
  obtain ⟨rfl, rfl⟩ := trodVars_none hV
  have k0 := h0
  have lt0 : ∀ x ∈ p0, x.block < W.heap.size := by obtain ⟨m, hm⟩ := k0; exact DataW.trod_lt m _ _ _ hm
  obtain ⟨s, rfl, _, _, ws⟩ := open_string Tryd.underlying9 (hval 0 9 v0 rfl rfl) h0
  obtain ⟨mx, hmx⟩ := cell_of_shapedOpen_int (P := Tryd.prog) (g := 3) (t := 3) (zero := #[.int .i64 0]) hS (of_decide_eq_true (by kernel_rfl)) (by kernel_rfl) rfl (by kernel_rfl) (by kernel_rfl) Tryd.underlying3
  refine (walk s W ws mx hmx).mono fun e W' ⟨he, bel⟩ => ?_
  subst he
  exact ⟨_, rfl, _, _, _, [], _, [], hW', trodAll_mk1 (shut_bool Tryd.underlying4 _), (trodAll_cons_mk (Below.trod laidOut (by kernel_rfl) (of_decide_eq_true (by kernel_rfl)) k0 bel lt0) trodAll_mk0), rfl, bel.frame _, fun h => by cases h⟩
theorem over : Rows.fnExactSplitWordsRow.holds Tryd.pinned (OpenSpec.ofChange Rows.fnExactSplitWordsSpec) :=
  OpenClaim.holds_of_wide 5 Tryd.f5 rfl rfl rfl rfl rfl rfl rfl ⟨rfl, rfl, rfl, rfl, rfl⟩ rfl rfl rfl rfl rfl (by kernel_rfl) Tryd.func5 (by kernel_rfl)
    (of_decide_eq_true (by kernel_rfl)) (by unfold Func.isWrapper; first | (rw [if_pos (by decide +kernel)]; kernel_rfl) | (rw [if_neg (by decide +kernel)]; exact ⟨rfl, rfl⟩))
    (fun os started H enc _ => lifted os started H enc)
/-- the statement -/
theorem proved : Rows.FnExactSplitWordsCardSaid :=
  Claim7.holds_tied_plain_at .later [] [.data, .pinned] true _ _
    over (fun _ h => by cases h) (by kernel_rfl) (fun _ h => by cases h) fnExactSplitWords_row_tie rfl ⟨rfl, rfl⟩ (by kernel_rfl) rfl
    (fun f fn hf hfn => by
      obtain rfl : f = 5 := Option.some.inj ((show Tryd.prog.funcNamed "loop.example/g01032/laws.FnExactSplitWords" = some 5 by kernel_rfl).symm.trans hf) |>.symm
      obtain rfl : fn = Tryd.f5 := (Option.some.inj (Tryd.func5.symm.trans hfn)).symm
      exact ⟨by kernel_rfl, fun j t ht => by
        rw [Tryd.params5] at ht
        have hm : t ∈ [9] := by simpa using Array.mem_of_getElem? ht
        have hall : ([9].all fun u => !Tryd.prog.wantsStandIn u) = true := by kernel_rfl
        exact (show Tryd.prog.wantsStandIn t = false by simpa using List.all_eq_true.1 hall t hm)⟩)
    (by kernel_rfl)
#print axioms proved
end Go.Proofs.YtfkleaagpflpkaaDoor.fnExactSplitWords
