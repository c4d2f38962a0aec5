/-
  Contracts on decimal numerals: the program's. They hold for every number of 64 bits, where a table of the library reads as it is laid.
-/
import Derived.Test.YtcjfdfjimcapkaaGreatDoorRows
import Derived.Test.YtcjfdfjimcapkaaGreatDoorDecPlain
import Derived.Test.YtcjfdfjimcapkaaGreatDoorShelf
namespace Go.Proofs.YtcjfdfjimcapkaaGreatDoor
set_option linter.unusedVariables false
open Go.RowKit

/-- the library's table of powers of ten lies as it is laid, whatever is done from block B on -/
abbrev PowTab (B : Nat) (w : World) : Prop := Lib.TabBelow Tryz.prog B w "internal/strconv.uint64pow10" .u64 Lib.pow10Tab
theorem below_gr (w : World) (k : Nat) (os : Array Obj) : Below w.heap.size w (Sort.grow (w.drewN k) os) := Lib.below_grow _ w (Nat.le_refl _) k os
theorem implDecimal (w : World) (n : Int) (B : Nat) (ht : PowTab B w) (h0 : -9223372036854775808 ≤ n) (h1 : n ≤ 9223372036854775807) :
    Calls Tryz.prog 31 #[.int .i64 n] w fun e w' => e = .returned (.string ⟨(Lib.itoa n).toArray⟩) ∧ Below w.heap.size w w' := by
  go_enter Tryz.func31, Tryz.ntmps31
  go_wp2_with ((go_at_call 42; refine (Tryz.strconv_FormatInt_10 n h0 h1 _ ht.here).mono ?_; rintro e w' ⟨rfl, k, os, rfl⟩))
  go_ret
  exact ⟨rfl, below_gr _ _ _⟩
end Go.Proofs.YtcjfdfjimcapkaaGreatDoor
