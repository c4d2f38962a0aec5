/-
  Contracts on reading a net: the reference. They hold for every text of at most 1048576 bytes.
-/
import Derived.IntWalk
import Derived.Test.YtcjfdfjimcapkaaDoorRdNPlain
import Derived.Test.YtcjfdfjimcapkaaDoorRdAt
import Derived.Test.YtcjfdfjimcapkaaDoorNetOk
import Derived.Test.YtcjfdfjimcapkaaDoorPair
import Derived.Test.YtcjfdfjimcapkaaDoorJoinN
import Derived.Deep.AppendLies
namespace Go.Proofs.YtcjfdfjimcapkaaDoor
set_option linter.unusedVariables false
set_option linter.unusedSimpArgs false
open Go.RowKit

theorem frz3 {w : World} {g : Nat} {cs : Array Value} {t : TypeId} (h : w.heap[g]? = some (.cells cs t (0, 0))) : w.frozen? ⟨g, 0, none⟩ = false ∧ w.frozen? ⟨g, 1, none⟩ = false ∧ w.frozen? ⟨g, 2, none⟩ = false := ⟨frozen_of_row w g 0 _ _ h, frozen_of_row w g 1 _ _ h, frozen_of_row w g 2 _ _ h⟩
/-- a ditch and whether it was read -/
def DitchB (x : List UInt8) (w : World) (e : Ending) (w' : World) : Prop :=
  ∃ a b f, e = .returned (.tuple #[.agg #[.int .i64 a, .int .i64 b, .int .i64 f], .bool (dkB x)]) ∧ (dkB x = true → a = dkF x ∧ b = dkT x ∧ f = dkW x) ∧ Below w.heap.size w w'
set_option maxRecDepth 100000 in
set_option maxHeartbeats 800000 in
theorem l04Read_any (w : World) (x : List UInt8) (hm : x.length ≤ 1048576) : Calls Tryd.prog 30 #[.string ⟨x.toArray⟩] w (DitchB x w) := by
  obtain ⟨P, hP⟩ : ∃ P, spl 62 x = P := ⟨_, rfl⟩
  have HP := Lib.hid hP
  clear hP
  by_cases h2 : P.length = 2
  · obtain ⟨p, r, rfl⟩ := two_of h2
    have hp1 : p.length ≤ x.length := spl_piece (d := 62) (by rw [HP.out]; simp)
    have hr1 : r.length ≤ x.length := spl_piece (d := 62) (by rw [HP.out]; simp)
    obtain ⟨Q, hQ⟩ : ∃ Q, spl 61 r = Q := ⟨_, rfl⟩
    have HQ := Lib.hid hQ
    clear hQ h2
    by_cases h3 : Q.length = 2
    · obtain ⟨q, s, rfl⟩ := two_of h3
      have hq1 : q.length ≤ r.length := spl_piece (d := 61) (by rw [HQ.out]; simp)
      have hs1 : s.length ≤ r.length := spl_piece (d := 61) (by rw [HQ.out]; simp)
      have HK := Lib.hid (dk_three HP.out HQ.out)
      clear h3
      go_enter Tryd.func30, Tryd.ntmps30
      go_wp2_with (first | (go_at_call 21; with_reducible refine (split2_at _ x 62 62 p r (by decide) HP.out hm).mono ?_; rintro e w2 ⟨g, c0, cur, rfl, kg, g0, hcur, hb2⟩; have kd2 := keep_blk (hb := hb2) (h := heap_alloc_new w _); obtain ⟨d0, d1, d2, dl⟩ := row_three kd2; obtain ⟨e0, e1, e2⟩ := frz3 kd2; have g1 := (cell_of_row w2 g 1 _ _ (0, 0) kg).trans hcur) | (go_at_call 21; with_reducible refine (split2_at _ r 61 61 q s (by decide) HQ.out (by omega)).mono ?_; rintro e w3 ⟨g', c1, cur', rfl, kg', h0, hcur', hb3⟩; have kd3 := keep_blk (hb := hb3) (h := kd2); obtain ⟨d0, d1, d2, dl⟩ := row_three kd3; obtain ⟨e0, e1, e2⟩ := frz3 kd3; have kg3 := keep_blk (hb := hb3) (h := kg); have f0 := (hb3.cell (p := ⟨g, 0, none⟩) (blk_lt kg)).trans g0) | (go_at_call 22; with_reducible refine (number_at _ p _ rfl (by omega)).mono ?_; rintro e w4 ⟨rfl, hb4⟩; have kd4 := keep_blk (hb := hb4) (h := kd3); obtain ⟨d0, d1, d2, dl⟩ := row_three kd4; obtain ⟨e0, e1, e2⟩ := frz3 kd4; have kg4 := keep_blk (hb := hb4) (h := kg'); have f1 := (hb4.cell (p := ⟨g', 0, none⟩) (blk_lt kg')).trans h0) | (go_at_call 22; with_reducible refine (number_at _ q _ rfl (by omega)).mono ?_; rintro e w5 ⟨rfl, hb5⟩; have kd5 := keep_blk (hb := hb5) (h := kd4); obtain ⟨d0, d1, d2, dl⟩ := row_three kd5; obtain ⟨e0, e1, e2⟩ := frz3 kd5; have kg5 := keep_blk (hb := hb5) (h := kg4); have f2 := (cell_of_row w5 g' 1 _ _ (0, 0) kg5).trans hcur') | (go_at_call 22; with_reducible refine (number_at _ s _ rfl (by omega)).mono ?_; rintro e w6 ⟨rfl, hb6⟩; have kd6 := keep_blk (hb := hb6) (h := kd5); obtain ⟨d0, d1, d2, dl⟩ := row_three kd6; obtain ⟨e0, e1, e2⟩ := frz3 kd6))
      all_goals
        refine bodyPost_ret (v := .tuple #[.agg #[.int .i64 (numV p), .int .i64 (numV q), .int .i64 (numV s)], .bool (dkB x)]) (by rw [HK.out.1]; simp_all [results, Tryd.results30, go_sem]) rfl ?_
        exact ⟨_, _, _, rfl, fun _ => ⟨HK.out.2.1.symm, HK.out.2.2.1.symm, HK.out.2.2.2.symm⟩, by repeat (first | exact Below.refl _ _ | assumption | apply bl_alloc | apply bl_drewN | apply Below.drew | (refine bl_set ?_ (by first | exact Nat.le_refl _ | (simp; done) | (simp; omega)) _) | (refine bl_trans ?_ (by assumption)))⟩
    · have H := Lib.hid (dk_two HP.out (by rw [HQ.out]; exact h3))
      have h4 : ((Q.length : Int) != 2) = true := by simp; omega
      go_enter Tryd.func30, Tryd.ntmps30
      go_wp2_with (first | (go_at_call 21; with_reducible refine (split2_at _ x 62 62 p r (by decide) HP.out hm).mono ?_; rintro e w2 ⟨g, c0, cur, rfl, kg, g0, hcur, hb2⟩; have kd2 := keep_blk (hb := hb2) (h := heap_alloc_new w _); obtain ⟨d0, d1, d2, dl⟩ := row_three kd2; obtain ⟨e0, e1, e2⟩ := frz3 kd2; have g1 := (cell_of_row w2 g 1 _ _ (0, 0) kg).trans hcur) | (go_at_call 21; with_reducible refine (split_at _ r 61 61 Q (by decide) HQ.out (by omega)).mono ?_; rintro e w3 ⟨g', c1, cur', rfl, hg', kg', hcur', hb3⟩; have kd3 := keep_blk (hb := hb3) (h := kd2); obtain ⟨d0, d1, d2, dl⟩ := row_three kd3; obtain ⟨e0, e1, e2⟩ := frz3 kd3))
      refine bodyPost_ret (v := .tuple #[.agg #[.int .i64 0, .int .i64 0, .int .i64 0], .bool false]) (by simp [results, Tryd.results30, go_sem, d0, d1, d2]) rfl ?_
      exact ⟨0, 0, 0, by rw [H.out], (fun h => by rw [H.out] at h; cases h), by repeat (first | exact Below.refl _ _ | assumption | apply bl_alloc | apply bl_drewN | apply Below.drew | (refine bl_set ?_ (by first | exact Nat.le_refl _ | (simp; done) | (simp; omega)) _) | (refine bl_trans ?_ (by assumption)))⟩
  · have H := Lib.hid (dk_not (w := x) (by rw [HP.out]; exact h2))
    have h4 : ((P.length : Int) != 2) = true := by simp; omega
    go_enter Tryd.func30, Tryd.ntmps30
    go_wp2_with ((go_at_call 21; with_reducible refine (split_at _ x 62 62 P (by decide) HP.out hm).mono ?_; rintro e w2 ⟨g, c0, cur, rfl, hg, kg, hcur, hb2⟩; have kd2 := keep_blk (hb := hb2) (h := heap_alloc_new w _); obtain ⟨d0, d1, d2, dl⟩ := row_three kd2; obtain ⟨e0, e1, e2⟩ := frz3 kd2))
    refine bodyPost_ret (v := .tuple #[.agg #[.int .i64 0, .int .i64 0, .int .i64 0], .bool false]) (by simp [results, Tryd.results30, go_sem, d0, d1, d2]) rfl ?_
    exact ⟨0, 0, 0, by rw [H.out], (fun h => by rw [H.out] at h; cases h), by repeat (first | exact Below.refl _ _ | assumption | apply bl_alloc | apply bl_drewN | apply Below.drew | (refine bl_set ?_ (by first | exact Nat.le_refl _ | (simp; done) | (simp; omega)) _) | (refine bl_trans ?_ (by assumption)))⟩
theorem l04Read_no (w : World) (x : List UInt8) (hm : x.length ≤ 1048576) (hd : dkB x = false) : Calls Tryd.prog 30 #[.string ⟨x.toArray⟩] w fun e w' => ∃ a b f, e = .returned (.tuple #[.agg #[.int .i64 a, .int .i64 b, .int .i64 f], .bool false]) ∧ Below w.heap.size w w' := by
  refine (l04Read_any w x hm).mono ?_
  rintro e w' ⟨a, b, f, rfl, _, hb⟩
  exact ⟨a, b, f, by rw [hd], hb⟩
theorem l04Read_yes (w : World) (x : List UInt8) (a b f : Int) (hm : x.length ≤ 1048576) (hd : dkB x = true) (ha : dkF x = a) (hb : dkT x = b) (hf : dkW x = f) : Calls Tryd.prog 30 #[.string ⟨x.toArray⟩] w fun e w' => e = .returned (.tuple #[.agg #[.int .i64 a, .int .i64 b, .int .i64 f], .bool true]) ∧ Below w.heap.size w w' := by
  refine (l04Read_any w x hm).mono ?_
  rintro e w' ⟨a', b', f', rfl, hv, hb2⟩
  have hv := hv hd
  exact ⟨by rw [hd, hv.1, hv.2.1, hv.2.2, ha, hb, hf], hb2⟩
/-- a net and whether it was read -/
def NewNetB (J : Int) (n : Nat) (fl : List Int) (b : Bool) (w : World) (e : Ending) (w' : World) : Prop :=
  ∃ A k, e = .returned (.tuple #[.agg #[.int .i64 J, .slice A n k], .bool b]) ∧ OwnC w.heap.size w'.heap.size w' A (ints fl) ∧ Below w.heap.size w w'
theorem own_form3 {wr : World} {B T n : Nat} {v : Value} {xs : List Int} (hown : wr.ownsRow B T 3 v n (ints xs)) (lx : xs.length = n * 3) :
    ∃ A c, v = .slice A n c ∧ n ≤ c ∧ OwnC B wr.heap.size wr A (ints xs) := by
  rcases hown.2 with ⟨rfl, h0⟩ | ⟨g, cap, cur, rfl, hb, hg, hn, hm, hs, ht⟩
  · refine ⟨none, 0, by rw [h0], by omega, fun h => ?_⟩
    rw [ints_len, lx, h0] at h
    exact absurd h (by omega)
  · refine ⟨_, _, rfl, hn, fun _ => ⟨g, cur, T, rfl, hb, (Array.getElem?_eq_some_iff.1 hg).1, hg, fun i hi => ?_⟩⟩
    rw [ints_len, lx] at hi
    rw [← ht, List.getElem?_take, if_pos (by omega)]
    simp
theorem ints_three {fl zs : List Int} {a b c : Int} (h : zs = fl ++ [a, b, c]) : ints fl ++ [.int .i64 a, .int .i64 b, .int .i64 c] = ints zs := by subst h; simp [ints]
theorem last_byte (q : List UInt8) (c : UInt8) (hp : q.length < (⟨(q ++ [c]).toArray⟩ : ByteArray).size) : (((⟨(q ++ [c]).toArray⟩ : ByteArray)[q.length]'hp).toNat : Int) = (c.toNat : Int) := by
  have : (⟨(q ++ [c]).toArray⟩ : ByteArray)[q.length]'hp = c := by
    show (q ++ [c]).toArray[q.length]'_ = c
    simp
  rw [this]
theorem ext_last (q : List UInt8) (c : UInt8) : Value.string ((⟨(q ++ [c]).toArray⟩ : ByteArray).extract 0 q.length) = .string ⟨q.toArray⟩ := by
  rw [ext_sV, sV]
  simp
theorem newW (W : World) (o1 o2 : Obj) : ((W.alloc o1).alloc o2).heap[W.heap.size + 1]? = some o2 := by simpa using heap_alloc_new (W.alloc o1) o2
theorem two_setN {w : World} {G : Nat} {x y a b : Value} {T : TypeId} (h : w.heap[G]? = some (.cells #[x, y] T (0, 0))) : ((w.setCell ⟨G, 0, none⟩ a).setCell ⟨G, 1, none⟩ b).heap[G]? = some (.cells #[a, b] T (0, 0)) :=
  heap_setCell_same _ _ 1 _ T b (heap_setCell_same w _ 0 #[x, y] T a h)
theorem spl_parts (l : List UInt8) : spl 32 l = rnH l :: rnP l := by
  unfold rnH rnP
  cases hs : spl 32 l with
  | nil => exact absurd hs (spl_ne 32 l)
  | cons x r => rfl
set_option maxRecDepth 100000 in
set_option maxHeartbeats 1600000 in
theorem specReadN (w : World) (l : List UInt8) (hm : l.length ≤ 1048576) : Calls Tryd.prog 11 #[.string ⟨l.toArray⟩] w (NewNetB (rnJ l) (rnN l) (rnF l) (rnB l) w) := by
  obtain ⟨i0, hi, hz0, hz1, hz2⟩ := info_parts infoDitch
  obtain ⟨h, hh⟩ : ∃ h, rnH l = h := ⟨_, rfl⟩
  obtain ⟨P, hP⟩ : ∃ P, rnP l = P := ⟨_, rfl⟩
  have HH := Lib.hid hh
  have HP := Lib.hid hP
  have HPN := Lib.hid (show spl 32 l = h :: P by rw [spl_parts, hh, hP])
  have hhl : h.length ≤ l.length := spl_piece (d := 32) (by rw [HPN.out]; simp)
  have hpl : P.length ≤ l.length := by rw [← hP]; exact rnP_le l
  clear hh hP
  by_cases h0 : h = []
  · have H := Lib.hid (rn_hd (l := l) (by rw [HH.out, h0]; rfl))
    have HD := Lib.hid (rnn_no H.out)
    subst h0
    go_enter Tryd.func11, Tryd.ntmps11
    go_wp2_with ((go_at_call 21; with_reducible refine (split_at _ l 32 32 ([] :: P) (by decide) HPN.out hm).mono ?_; rintro e w2 ⟨g, c0, cur, rfl, hg, kg, hcur, hb2⟩; have hgl := blk_lt kg; have kr2 := keep_blk (hb := hb2) (h := heap_alloc_new w _); obtain ⟨r0, r1, rf0, rf1, rl⟩ := cells_two kr2 (Below.refl _ _); have f0 := cell_sV kg hcur (i := 0) (x := []) rfl))
    refine bodyPost_ret (v := .tuple #[.agg #[.int .i64 0, .slice none 0 0], .bool false]) (by simp [results, Tryd.results11, go_sem, r0, r1]) rfl ?_
    rw [H.out, HD.out.1, HD.out.2.1]
    exact ⟨none, 0, rfl, by rw [HD.out.2.2]; exact OwnC.nil _ _ _ _, by repeat (first | exact Below.refl _ _ | assumption | apply bl_alloc | apply bl_drewN | apply Below.drew | (refine bl_set ?_ (by first | exact Nat.le_refl _ | (simp; done) | (simp; omega)) _) | (refine bl_trans ?_ (by assumption)))⟩
  · obtain ⟨q, c, rfl⟩ : ∃ q c, h = q ++ [c] := ⟨_, _, (List.dropLast_concat_getLast h0).symm⟩
    clear h0
    have hql : q.length ≤ 1048575 := by simp at hhl; omega
    clear hhl
    by_cases hc : c = 58
    · subst hc
      have hx := last_byte q 58 (by simp [ByteArray.size])
      have HHB := Lib.hid (show hdB (rnH l) = numB q by rw [HH.out]; simp [hdB])
      have HHV := Lib.hid (show hdV (rnH l) = numV q by rw [HH.out]; simp [hdV])
      have HNQ := Lib.hid (fun W : World => (by rw [ext_last]; exact number_at W q _ rfl (by omega) : Calls Tryd.prog 22 #[.string ((⟨(q ++ [58]).toArray⟩ : ByteArray).extract 0 q.length)] W fun e w' => e = .returned (.tuple #[.int .i64 (numV q), .bool (numB q)]) ∧ Below W.heap.size W w'))
      change _ = (58 : Int) at hx
      go_enter Tryd.func11, Tryd.ntmps11
      go_wp2_with (first | (go_at_call 21; with_reducible refine (split_at _ l 32 32 ((q ++ [58]) :: P) (by decide) HPN.out hm).mono ?_; rintro e w2 ⟨g, c0, cur, rfl, hg, kg, hcur, hb2⟩; have hgl := blk_lt kg; have kr2 := keep_blk (hb := hb2) (h := heap_alloc_new w _); obtain ⟨r0, r1, rf0, rf1, rl⟩ := cells_two kr2 (Below.refl _ _); have f0 := cell_sV kg hcur (i := 0) (x := (q ++ [58])) rfl) | (go_at_call 22; refine (HNQ.out _).mono ?_; rintro e w3 ⟨rfl, hb3⟩; have kr3 := keep_blk (hb := hb3) (h := kr2); have kg3 := keep_blk (hb := hb3) (h := kg)))
      have zb2 := hb2.size
      have zb3 := hb3.size
      simp at zb2 hg
      go_loopg [9] P.length (fun m i wr => ∃ j v, j ≤ P.length ∧ m = P.length - j ∧ i = .int .i64 (((j + 1 : Nat)) : Int) ∧ wr.heap[w3.heap.size]? = some (.cells #[.int .i64 (numV q), v] 32 (0, 0)) ∧ wr.ownsRow (w3.heap.size + 1) 55 3 v j (ints (k3 P j)) ∧ wr.heap[w.heap.size]? = some (.cells #[.int .i64 0, .slice none 0 0] 32 (0, 0)) ∧ wr.heap[g]? = some (.cells cur 9 (0, 0)) ∧ AllD P j ∧ Below w.heap.size w wr)
      case atStart => exact ⟨0, .slice none 0 0, Nat.zero_le _, rfl, rfl, by repeat (first | (refine blk_new ?_; (first | rfl | (simp; done) | (simp; omega))) | refine blk_drewN ?_ | refine blk_old ?_), World.ownsRow_nil _ _ _ _, blk_old kr3, blk_old kg3, AllD.zero P, by repeat (first | exact Below.refl _ _ | assumption | apply bl_alloc | apply bl_drewN | apply Below.drew | (refine bl_set ?_ (by first | exact Nat.le_refl _ | (simp; done) | (simp; omega)) _) | (refine bl_trans ?_ (by assumption)))⟩
      case round =>
        obtain ⟨j, v, hj, hgj, rfl, kn, hown, kr, kg, hok, hb⟩ := hrel
        have HGK := Lib.hid hgj
        clear hgj
        by_cases hlt : j < P.length
        · obtain ⟨x, hx⟩ : ∃ x, P[j]? = some x := ⟨_, List.getElem?_eq_getElem hlt⟩
          have f1 := cell_sV kg hcur (i := j + 1) (x := x) (by simpa using hx)
          have hgl := blk_lt kg
          obtain ⟨n0, n1, nf0, nf1, nl⟩ := cells_two kn (Below.refl _ _)
          have hxm : x ∈ rnP l := by rw [HP.out]; exact List.mem_of_getElem? hx
          have hxl : x.length ≤ l.length := spl_piece (d := 32) (by rw [HPN.out]; exact List.mem_cons_of_mem _ (List.mem_of_getElem? hx))
          have HK := Lib.hid (k3_next hx)
          have HJL := Lib.hid (k3_len hj)
          have hlk := blk_lt kn
          cases hd : dkB x
          · have H := Lib.hid (rn_dk hxm hd)
            have HD := Lib.hid (rnn_no H.out)
            have HL4 := Lib.hid (fun W : World => l04Read_no W x (by omega) hd)
            clear hd
            go_wp2_with ((go_at_call 30; refine (HL4.out _).mono ?_; rintro e w4 ⟨a, b, f, rfl, hb4⟩; have kn4 := keep_blk (hb := hb4) (h := kn); have kr4 := keep_blk (hb := hb4) (h := kr); have kg4 := keep_blk (hb := hb4) (h := kg); have z4 := hb4.size; obtain ⟨n0, n1, nf0, nf1, nl⟩ := cells_two kn4 (Below.refl _ _); obtain ⟨r0, r1, rf0, rf1, rl⟩ := cells_two kr4 (Below.refl _ _)))
            obtain ⟨q0, q1, _⟩ := row_two (blk_old (o' := .cells #[.int .i64 a, .int .i64 b, .int .i64 f] 55) (two_setN (a := .int .i64 0) (b := .slice none 0 0) kr4))
            refine bodyPost_ret (v := .tuple #[.agg #[.int .i64 0, .slice none 0 0], .bool false]) (by simp [results, Tryd.results11, go_sem, q0, q1]) rfl ?_
            rw [H.out, HD.out.1, HD.out.2.1]
            exact ⟨none, 0, rfl, by rw [HD.out.2.2]; exact OwnC.nil _ _ _ _, by repeat (first | exact Below.refl _ _ | assumption | apply bl_alloc | apply bl_drewN | apply Below.drew | (refine bl_set ?_ (by first | exact Nat.le_refl _ | (simp; done) | (simp; omega)) _) | (refine bl_trans ?_ (by assumption)))⟩
          · have HF := Lib.hid (hok.next hx hd)
            obtain ⟨a, ha⟩ : ∃ a, dkF x = a := ⟨_, rfl⟩
            obtain ⟨b, hb'⟩ : ∃ b, dkT x = b := ⟨_, rfl⟩
            obtain ⟨f, hf⟩ : ∃ f, dkW x = f := ⟨_, rfl⟩
            rw [ha, hb', hf] at HK
            have HL4 := Lib.hid (fun W : World => l04Read_yes W x a b f (by omega) hd ha hb' hf)
            clear hd ha hb' hf
            go_wp2_with (first | (go_at_call 30; refine (HL4.out _).mono ?_; rintro e w4 ⟨rfl, hb4⟩; have kn4 := keep_blk (hb := hb4) (h := kn); have kr4 := keep_blk (hb := hb4) (h := kr); have kg4 := keep_blk (hb := hb4) (h := kg); have z4 := hb4.size; obtain ⟨n0, n1, nf0, nf1, nl⟩ := cells_two kn4 (Below.refl _ _); obtain ⟨r0, r1, rf0, rf1, rl⟩ := cells_two kr4 (Below.refl _ _); have own4 := Lib.hid (own_beJ hown hb4)) | (at_builtin; refine wpList_append_lies _ rfl _ _ 30 rfl (w3.heap.size + 1) 55 i0 (.agg #[.int .i64 0, .int .i64 0, .int .i64 0]) 3 24 Tryd.underlying30 hi hz0 hz1 hz2 rfl (by decide) v j (ints (k3 P j)) rfl ((own4.out.alloc (.cells #[.int .i64 a, .int .i64 b, .int .i64 f] 55)).alloc (.cells #[.int .i64 a, .int .i64 b, .int .i64 f] 55)) ⟨w4.heap.size + 1, 0, none⟩ 1 1 [.int .i64 a, .int .i64 b, .int .i64 f] rfl rfl (World.news_of_block (cs := #[.int .i64 a, .int .i64 b, .int .i64 f]) (t := 55) (fr := (0, 0)) (newW w4 _ _)) (by simp [Value.oneCell']) (by omega) (by unfold maxLen; omega) (by omega) (by simp; omega) (w4.heap.size + 1 + 1) (by simp) ?_; intro g2 cap2 w6 hown2 hgrow2 hat2 hlt2; have kn6 := app_keep ((own4.out.alloc (.cells #[.int .i64 a, .int .i64 b, .int .i64 f] 55)).alloc (.cells #[.int .i64 a, .int .i64 b, .int .i64 f] 55)) hgrow2 (blk_old (blk_old kn4)) (by omega); have kr6 := app_keep ((own4.out.alloc (.cells #[.int .i64 a, .int .i64 b, .int .i64 f] 55)).alloc (.cells #[.int .i64 a, .int .i64 b, .int .i64 f] 55)) hgrow2 (blk_old (blk_old kr4)) (by omega); have kg6 := app_keep ((own4.out.alloc (.cells #[.int .i64 a, .int .i64 b, .int .i64 f] 55)).alloc (.cells #[.int .i64 a, .int .i64 b, .int .i64 f] 55)) hgrow2 (blk_old (blk_old kg4)) (by omega); obtain ⟨m0, m1, mf0, mf1, ml⟩ := cells_two kn6 (Below.refl _ _); have R6 := Lib.hid (app_belowB (bl_alloc (bl_alloc (bl_trans hb hb4) (.cells #[.int .i64 a, .int .i64 b, .int .i64 f] 55)) (.cells #[.int .i64 a, .int .i64 b, .int .i64 f] 55)) ((own4.out.alloc (.cells #[.int .i64 a, .int .i64 b, .int .i64 f] 55)).alloc (.cells #[.int .i64 a, .int .i64 b, .int .i64 f] 55)) (by omega) hgrow2); have own6 := Lib.hid (show w6.ownsRow (w3.heap.size + 1) 55 3 (.slice (some ⟨g2, 0, none⟩) (j + 1) cap2) (j + 1) (ints (k3 P (j + 1))) from (by rw [← ints_three HK.out]; exact hown2)); have hgB : w3.heap.size < g2 := own_geB hown2))
            go_roundg (P.length - (j + 1))
            case measure => rw [HGK.out]; omega
            case rel => exact ⟨j + 1, _, by omega, rfl, by go_num, heap_setCell_same _ _ 1 _ _ _ kn6, own_setCell own6.out (fun g hg => by simp [Value.ownBlock] at hg; subst hg; show _ ≠ w3.heap.size; omega) _, kb_set kr6 (by first | omega | (simp; done) | (simp; omega)), kb_set kg6 (by first | omega | (simp; done) | (simp; omega)), HF.out, bl_set R6.out (by simp; omega) _⟩
        · obtain rfl : j = P.length := by omega
          obtain ⟨n0, n1, nf0, nf1, nl⟩ := cells_two kn (Below.refl _ _)
          obtain ⟨r0, r1, rf0, rf1, rl⟩ := cells_two kr (Below.refl _ _)
          have HAL := Lib.hid hok.all
          cases hq : numB q
          · have H := Lib.hid (rn_hd (l := l) (by rw [HHB.out, hq]))
            have HD := Lib.hid (rnn_no H.out)
            go_wp2
            refine bodyPost_ret (v := .tuple #[.agg #[.int .i64 0, .slice none 0 0], .bool false]) (by simp [results, Tryd.results11, go_sem, r0, r1]) rfl ?_
            rw [H.out, HD.out.1, HD.out.2.1]
            exact ⟨none, 0, rfl, by rw [HD.out.2.2]; exact OwnC.nil _ _ _ _, by repeat (first | exact Below.refl _ _ | assumption | apply bl_alloc | apply bl_drewN | apply Below.drew | (refine bl_set ?_ (by first | exact Nat.le_refl _ | (simp; done) | (simp; omega)) _) | (refine bl_trans ?_ (by assumption)))⟩
          · obtain ⟨A, c, rfl, hnc, ho⟩ := own_form3 hown (k3_len (Nat.le_refl _))
            have HO := Lib.hid ho
            have HRO := Lib.hid (rn_of (l := l) (by rw [HHB.out, hq]) (by rw [HP.out]; exact HAL.out))
            have HVC := Lib.hid (fun (v : Bool) (hv : netOk (numV q) P.length (k3 P P.length) = v) => (by
              have h := l04Ok_any wr w3.heap.size (numV q) A P.length c (k3 P P.length) n0 n1 HO.out.rc (k3_len (Nat.le_refl _)) (by omega)
              rw [hv] at h
              exact h : Calls Tryd.prog 31 #[.pointer (some ⟨w3.heap.size, 0, none⟩)] wr fun e w' => e = .returned (.bool v) ∧ Below wr.heap.size wr w'))
            cases k5 : netOk (numV q) P.length (k3 P P.length)
            · have HV5 := HVC.out _ k5
              have H := Lib.hid (show rnB l = false by rw [HRO.out, HHV.out, HP.out, ← k3_all, k5])
              have HD := Lib.hid (rnn_no H.out)
              go_wp2_with (go_at_call 31; refine HV5.mono ?_; rintro e w4 ⟨rfl, hb4⟩; have kn4 := keep_blk (hb := hb4) (h := kn); have kr4 := keep_blk (hb := hb4) (h := kr); obtain ⟨n0, n1, nf0, nf1, nl⟩ := cells_two kn4 (Below.refl _ _); obtain ⟨r0, r1, rf0, rf1, rl⟩ := cells_two kr4 (Below.refl _ _))
              refine bodyPost_ret (v := .tuple #[.agg #[.int .i64 0, .slice none 0 0], .bool false]) (by simp [results, Tryd.results11, go_sem, r0, r1]) rfl ?_
              rw [H.out, HD.out.1, HD.out.2.1]
              exact ⟨none, 0, rfl, by rw [HD.out.2.2]; exact OwnC.nil _ _ _ _, by repeat (first | exact Below.refl _ _ | assumption | apply bl_alloc | apply bl_drewN | apply Below.drew | (refine bl_set ?_ (by first | exact Nat.le_refl _ | (simp; done) | (simp; omega)) _) | (refine bl_trans ?_ (by assumption)))⟩
            · have HV5 := HVC.out _ k5
              have H := Lib.hid (show rnB l = true by rw [HRO.out, HHV.out, HP.out, ← k3_all, k5])
              have HD := Lib.hid (rnn_yes H.out)
              clear k5
              go_wp2_with (go_at_call 31; refine HV5.mono ?_; rintro e w4 ⟨rfl, hb4⟩; have kn4 := keep_blk (hb := hb4) (h := kn); have kr4 := keep_blk (hb := hb4) (h := kr); obtain ⟨n0, n1, nf0, nf1, nl⟩ := cells_two kn4 (Below.refl _ _); obtain ⟨r0, r1, rf0, rf1, rl⟩ := cells_two kr4 (Below.refl _ _))
              refine bodyPost_ret (v := .tuple #[.agg #[.int .i64 (numV q), .slice A P.length c], .bool true]) (by simp [results, Tryd.results11, go_sem, r0, r1]) rfl ?_
              rw [H.out, HD.out.1, HD.out.2.1, HHV.out, HP.out]
              have z9 := hb4.size
              have zr := hb.size
              exact ⟨_, _, rfl, by rw [HD.out.2.2, HP.out, ← k3_all]; exact (((HO.out.below hb4).far (.inl (by first | omega | (simp; done) | (simp; omega))) _).far (.inl (by first | omega | (simp; done) | (simp; omega))) _).wide (by omega) (by simp; omega), by repeat (first | exact Below.refl _ _ | assumption | apply bl_alloc | apply bl_drewN | apply Below.drew | (refine bl_set ?_ (by first | exact Nat.le_refl _ | (simp; done) | (simp; omega)) _) | (refine bl_trans ?_ (by assumption)))⟩
    · have H := Lib.hid (rn_hd (l := l) (by rw [HH.out]; simp [hdB, hc]))
      have HD := Lib.hid (rnn_no H.out)
      obtain ⟨X, hX⟩ : ∃ X : Int, (c.toNat : Int) = X := ⟨_, rfl⟩
      have hx := last_byte q c (by simp [ByteArray.size])
      rw [hX] at hx
      have hx2 : (X != 58) = true := by
        have h58 : c.toNat ≠ 58 := fun e => hc (UInt8.toNat_inj.1 (by simpa using e))
        simp
        omega
      clear hX
      go_enter Tryd.func11, Tryd.ntmps11
      go_wp2_with ((go_at_call 21; with_reducible refine (split_at _ l 32 32 ((q ++ [c]) :: P) (by decide) HPN.out hm).mono ?_; rintro e w2 ⟨g, c0, cur, rfl, hg, kg, hcur, hb2⟩; have hgl := blk_lt kg; have kr2 := keep_blk (hb := hb2) (h := heap_alloc_new w _); obtain ⟨r0, r1, rf0, rf1, rl⟩ := cells_two kr2 (Below.refl _ _); have f0 := cell_sV kg hcur (i := 0) (x := (q ++ [c])) rfl))
      refine bodyPost_ret (v := .tuple #[.agg #[.int .i64 0, .slice none 0 0], .bool false]) (by simp [results, Tryd.results11, go_sem, r0, r1]) rfl ?_
      rw [H.out, HD.out.1, HD.out.2.1]
      exact ⟨none, 0, rfl, by rw [HD.out.2.2]; exact OwnC.nil _ _ _ _, by repeat (first | exact Below.refl _ _ | assumption | apply bl_alloc | apply bl_drewN | apply Below.drew | (refine bl_set ?_ (by first | exact Nat.le_refl _ | (simp; done) | (simp; omega)) _) | (refine bl_trans ?_ (by assumption)))⟩
end Go.Proofs.YtcjfdfjimcapkaaDoor
