/-
  Contract on reading a numeral: the program's. It holds for every text of at most 1048576 bytes, where a table and two variables of the library read as they are laid.
-/
import Derived.Test.YtcjfdfjimcapkaaGreatDoorDecImpl
import Derived.Test.YtcjfdfjimcapkaaGreatDoorNum
import Derived.Test.YtcjfdfjimcapkaaGreatDoorShelf2
namespace Go.Proofs.YtcjfdfjimcapkaaGreatDoor
set_option linter.unusedVariables false
open Go.RowKit
theorem parse_bd {l : List UInt8} {v : Int} (h : Lib.parseIntB 64 l = .ok v) : -9223372036854775808 ≤ v ∧ v ≤ 9223372036854775807 := by
  have := Lib.parseIntB_bounds h
  omega
theorem tail_size (s : ByteArray) (l : List UInt8) (h : l = tailD s.data.toList) : (⟨l.toArray⟩ : ByteArray).size = (tailD s.data.toList).length := by
  rw [h]
  rfl
theorem trim_text (s : ByteArray) : Lib.trimPrefix s.data.toList (⟨#[45]⟩ : ByteArray).data.toList = tailD s.data.toList := trim_minus _
theorem below_parse {w w' : World} {e : TypeId} (h : w' = w ∨ ∃ t, w' = Lib.bytesWorld w e t) : Below w.heap.size w w' := by
  rcases h with rfl | ⟨t, rfl⟩
  · exact Below.refl _ _
  · exact Lib.bytesWorld_below _ _ _
set_option maxRecDepth 100000 in
set_option maxHeartbeats 6400000 in
theorem implReadDecimal (w : World) (s : ByteArray) (B : Nat) (hm : s.size ≤ 1048576) (hBw : B ≤ w.heap.size) (ht : PowTab B w) (t1 t2 : TypeId) (p1 p2 : Value)
    (hs : w.var? Tryz.prog "strconv.ErrSyntax" = some #[.iface t1 p1]) (hr : w.var? Tryz.prog "strconv.ErrRange" = some #[.iface t2 p2]) :
    Calls Tryz.prog 17 #[.string s] w fun e w' => e = .returned (.tuple #[.int .i64 (numV s.data.toList), .bool (numB s.data.toList)]) ∧ Below w.heap.size w w' := by
  have HM := Lib.hid hm
  have HT := Lib.hid ht
  clear ht hm
  rcases h : Lib.parseIntB 64 s.data.toList with v | _ | _
  · have HP := Lib.hid h
    have hb := parse_bd h
    clear h
    have HB := Lib.hid hb
    clear hb
    go_enter Tryz.func17, Tryz.ntmps17
    go_wp2_with (first
      | (go_at_call 30; refine (Tryz.strconv_ParseInt_10_at64_ok s (by have := HM.out; omega) v HP.out _).mono ?_; rintro e w1 ⟨rfl, hw⟩; have hb1 := below_parse hw; clear hw)
      | (go_at_call 31; refine (implDecimal _ v B (HT.out.on (hb1.mono hBw)) HB.out.1 HB.out.2).mono ?_; rintro e w2 ⟨rfl, hb2⟩)
      | (go_at_call 16; refine (Tryz.strings_TrimPrefix _ _ _).mono ?_; rintro e w3 ⟨rfl, rfl⟩))
    · rename_i he hl
      rw [trim_minus] at hl
      have HN := parse_long (l := s.data.toList) (by omega)
      clear he hl
      go_ret2
      exact ⟨ret_num HN.2.symm HN.1.symm, by repeat (first | exact Below.refl _ _ | assumption | apply bl_alloc | apply bl_drewN | apply Below.drew | (refine bl_set ?_ (by first | exact Nat.le_refl _ | (simp; done) | (simp; omega)) _) | (refine bl_trans ?_ (by assumption)))⟩
    · rename_i he hl
      rw [trim_minus] at hl
      have HN := parse_ok HP.out (by omega) (by rw [he, Lib.toList_data])
      clear he hl
      go_ret2
      exact ⟨ret_num HN.2.symm HN.1.symm, by repeat (first | exact Below.refl _ _ | assumption | apply bl_alloc | apply bl_drewN | apply Below.drew | (refine bl_set ?_ (by first | exact Nat.le_refl _ | (simp; done) | (simp; omega)) _) | (refine bl_trans ?_ (by assumption)))⟩
    · rename_i he
      have HN := parse_bad HP.out (fun e => he (by rw [e, Lib.toList_data]))
      clear he
      go_ret2
      exact ⟨ret_num HN.2.symm HN.1.symm, by repeat (first | exact Below.refl _ _ | assumption | apply bl_alloc | apply bl_drewN | apply Below.drew | (refine bl_set ?_ (by first | exact Nat.le_refl _ | (simp; done) | (simp; omega)) _) | (refine bl_trans ?_ (by assumption)))⟩
  all_goals
    have HP := Lib.hid h
    clear h
    go_enter Tryz.func17, Tryz.ntmps17
    go_wp2_with (first
      | (go_at_call 30; refine (Tryz.strconv_ParseInt_10_at64_syntax_var s (by have := HM.out; omega) HP.out t1 p1 _ hs).mono ?_; rintro e w1 ⟨N, rfl, hN, -, hb1⟩)
      | (go_at_call 30; refine (Tryz.strconv_ParseInt_10_at64_range_var s (by have := HM.out; omega) HP.out t2 p2 _ hr).mono ?_; rintro e w1 ⟨N, rfl, hN, -, hb1⟩))
    have HN := parse_err (l := s.data.toList) (fun v e => by rw [HP.out] at e; cases e)
    go_ret2
    exact ⟨ret_num HN.2.symm HN.1.symm, by repeat (first | exact Below.refl _ _ | assumption | apply bl_alloc | apply bl_drewN | apply Below.drew | (refine bl_set ?_ (by first | exact Nat.le_refl _ | (simp; done) | (simp; omega)) _) | (refine bl_trans ?_ (by assumption)))⟩
end Go.Proofs.YtcjfdfjimcapkaaGreatDoor
