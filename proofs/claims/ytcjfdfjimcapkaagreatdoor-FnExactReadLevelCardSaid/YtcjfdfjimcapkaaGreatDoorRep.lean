/-
  Contract of the library's replacer of bytes: built once, then called.
-/
import Derived.Test.YtcjfdfjimcapkaaGreatDoorBuild2
import Derived.Test.YtcjfdfjimcapkaaGreatDoorBsr
namespace Go.Proofs.YtcjfdfjimcapkaaGreatDoor
set_option linter.unusedVariables false
set_option linter.unusedSimpArgs false
open Go.RowKit

theorem Tab.set {p G c : Nat} {w : World} (h : Tab p G c w) {q : Addr} (hp : p ≠ q.block) (hG : G ≠ q.block) (v : Value) : Tab p G c (w.setCell q v) := by
  obtain ⟨zt, cur, h1, h2, h3, h4, h5⟩ := h
  exact ⟨zt, cur, kb_set h1 hp, h2, h3, kb_set h4 hG, h5⟩
def Built (w0 : World) (b : Nat) (w' : World) : Prop :=
  ∃ p G c, w'.heap[b]? = some (.cells #[.int .u32 0, .int .i32 1, .int .u32 0, (.iface 89 (.pointer (some ⟨p, 0, none⟩))), .slice none 0 0] 59 (0, 0)) ∧ p ≠ b ∧ G ≠ b ∧ Tab p G c w' ∧ Below w0.heap.size w0 w'
theorem cells_of {w : World} {g : Nat} {cs : Array Value} {t : TypeId} (h : w.heap[g]? = some (.cells cs t (0, 0))) (j : Nat) : w.cell? ⟨g, j, none⟩ = cs[j]? ∧ w.frozen? ⟨g, j, none⟩ = false := ⟨cell_of_row w g j _ _ _ h, frozen_of_row w g j _ _ h⟩
set_option maxHeartbeats 800000 in
theorem buildOnce_any (w0 w : World) (b A : Nat) (hR : Repl 1 b A w) (hw : Below w0.heap.size w0 w) (hb0 : w0.heap.size ≤ b) :
    Calls Tryz.prog 27 #[.pointer (some ⟨b, 0, none⟩)] w (KeptOnce b 0 (Built w0 b)) := by
  have HR := Lib.hid hR
  obtain ⟨cap, cur, kb, _⟩ := hR
  have hbl := (Array.getElem?_eq_some_iff.1 kb).1
  go_enter Tryz.func27, Tryz.ntmps27
  go_wp2_with (go_at_call 39; refine (build_any _ b A 1 HR.out).mono ?_; rintro e w2 ⟨p, G, c, rfl, hp, hG, hT, hb2⟩; have kb2 := keep_blk (hb := hb2) (h := kb); obtain ⟨x3, y3⟩ := cells_of kb2 3; obtain ⟨x4, y4⟩ := cells_of kb2 4; simp at x3 x4)
  go_end0
  have K := heap_setCell_same _ _ 4 _ _ (.slice none 0 0) (heap_setCell_same _ _ 3 _ _ (.iface 89 (.pointer (some ⟨p, 0, none⟩))) kb2)
  refine ⟨rfl, ⟨p, G, c, K, by omega, by omega, (hT.set (q := ⟨b, 3, none⟩) (by show p ≠ b; omega) (by show G ≠ b; omega) _).set (q := ⟨b, 4, none⟩) (by show p ≠ b; omega) (by show G ≠ b; omega) _, bl_set (p := ⟨b, 4, none⟩) (bl_set (p := ⟨b, 3, none⟩) (bl_trans hw hb2) hb0 _) hb0 _⟩, ?_, ?_, ?_, ?_⟩
  · exact (cells_of K 0).1
  · exact (cells_of K 1).1
  · exact (cells_of K 0).2
  · exact (cells_of K 1).2
set_option maxRecDepth 100000 in
set_option maxHeartbeats 1600000 in
theorem replace_any (w0 w : World) (b A : Nat) (s : ByteArray) (hs : s.size ≤ 1048576) (hR : Repl 0 b A w) (hw : Below w0.heap.size w0 w) (hb0 : w0.heap.size ≤ b)
    (hbs : ∀ W p G c, Tab p G c W → Calls Tryz.prog 134 #[.pointer (some ⟨p, 0, none⟩), .string s] W fun e w' => e = .returned (.string ⟨(strk s.data.toList).toArray⟩) ∧ Below W.heap.size W w') :
    Calls Tryz.prog 14 #[.pointer (some ⟨b, 0, none⟩), .string s] w fun e w' => e = .returned (.string ⟨(strk s.data.toList).toArray⟩) ∧ Below w0.heap.size w0 w' := by
  obtain ⟨cap, cur, kb, kA, hcur, hne⟩ := hR
  have k1 := heap_setCell_same _ _ 1 _ _ (.int .i32 1) kb
  have HDO := Lib.hid (do_first b 0 (Built w0 b) w ((cells_of kb 0).1.trans rfl) ((cells_of kb 1).1.trans rfl) (cells_of kb 0).2 (cells_of kb 1).2 (buildOnce_any w0 _ b A ⟨cap, cur, k1, kb_set (p := ⟨b, 1, none⟩) kA hne, hcur, hne⟩ (bl_set (p := ⟨b, 1, none⟩) hw hb0 _) hb0))
  have hmf : ∀ (fn : Fn) (first cap : Array Value) (w : World), (Instr.makeFunc fn first cap).run Tryz.prog w = .ok (.func fn first cap) w := fun _ _ _ _ => rfl
  have hm : ∀ p (W : World), (method 294 89 (.pointer (some ⟨p, 0, none⟩)) "Replace").run Tryz.prog W = .ok (134, .pointer (some ⟨p, 0, none⟩)) W := fun _ _ => by kernel_rfl
  have HBS := Lib.hid hbs
  clear kb kA hcur hne k1 hbs
  go_enter Tryz.func14, Tryz.ntmps14
  go_wp2_with (first | (go_at_call 134; refine (HBS.out _ p G c hT4).mono ?_; rintro e w3 ⟨rfl, hb3⟩) | (go_at_call 26; refine HDO.out.mono ?_; rintro e w' ⟨rfl, w2, ⟨p, G, c, kb2, hp, hG, hT, hb2⟩, rfl⟩; have K := heap_setCell_same _ _ 1 _ _ (.int .i32 0) (heap_setCell_same _ _ 0 _ _ (.int .u32 1) (blk_drew kb2)); have hT3 := (hT.set (q := ⟨b, 0, none⟩) hp hG (.int .u32 1)).set (q := ⟨b, 1, none⟩) hp hG (.int .i32 0); have hT4 : Tab p G c ((w2.setCell ⟨b, 0, none⟩ (.int .u32 1)).setCell ⟨b, 1, none⟩ (.int .i32 0)).drew := hT3; obtain ⟨x3, y3⟩ := cells_of kb2 3; simp at x3))
  go_ret
  exact ⟨rfl, bl_trans (Below.drew (bl_set (p := ⟨b, 1, none⟩) (bl_set (p := ⟨b, 0, none⟩) hb2 hb0 (.int .u32 1)) hb0 (.int .i32 0))) hb3⟩
end Go.Proofs.YtcjfdfjimcapkaaGreatDoor
