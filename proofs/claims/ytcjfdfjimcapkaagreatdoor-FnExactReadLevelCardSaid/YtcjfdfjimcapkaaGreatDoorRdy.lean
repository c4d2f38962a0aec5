/-
  What the reader of numerals wants of the library's variables. No condition.
-/
import Derived.Test.YtcjfdfjimcapkaaGreatDoorNumImpl
import Derived.WalkSmall
namespace Go.Proofs.YtcjfdfjimcapkaaGreatDoor
set_option linter.unusedVariables false
open Go.RowKit
/-- what the reader of numerals wants of the library's variables -/
structure Rdy (B : Nat) (t1 t2 : TypeId) (p1 p2 : Value) (w : World) : Prop where
  pow : PowTab B w
  syn : w.var? Tryz.prog "strconv.ErrSyntax" = some #[.iface t1 p1]
  ran : w.var? Tryz.prog "strconv.ErrRange" = some #[.iface t2 p2]
  hb : B ≤ w.heap.size
  gs : 2 < B
  gr : 3 < B
theorem Rdy.below {B : Nat} {t1 t2 : TypeId} {p1 p2 : Value} {w w' : World} (h : Rdy B t1 t2 p1 p2 w) (hb : Below w.heap.size w w') : Rdy B t1 t2 p1 p2 w' :=
  have hB := hb.mono h.hb
  ⟨h.pow.on hB, var?_below (g := 2) hB (by kernel_rfl) h.gs h.syn, var?_below (g := 3) hB (by kernel_rfl) h.gr h.ran, Nat.le_trans h.hb hb.size, h.gs, h.gr⟩
theorem var_lt {w : World} {g : Nat} {n : String} {cs : Array Value} (hg : Tryz.prog.globalNamed n = some g) (h : w.var? Tryz.prog n = some cs) : g < w.heap.size := by
  unfold World.var? at h
  rw [hg] at h
  simp only [Option.bind_some] at h
  rcases Nat.lt_or_ge g w.heap.size with h' | h'
  · exact h'
  · rw [Array.getElem?_eq_none h'] at h; cases h
theorem rdy_of {w : World} {t1 t2 : TypeId} {p1 p2 : Value} (hpow : Lib.TabIs Tryz.prog w "internal/strconv.uint64pow10" .u64 Lib.pow10Tab) (hs : w.var? Tryz.prog "strconv.ErrSyntax" = some #[.iface t1 p1]) (hr : w.var? Tryz.prog "strconv.ErrRange" = some #[.iface t2 p2]) : Rdy w.heap.size t1 t2 p1 p2 w :=
  ⟨Lib.tabBelow_of_tabIs hpow, hs, hr, Nat.le_refl _, var_lt (g := 2) (by kernel_rfl) hs, var_lt (g := 3) (by kernel_rfl) hr⟩
end Go.Proofs.YtcjfdfjimcapkaaGreatDoor
