/-
  DERIVED. GIVEN WITH THE SEED: THE CARDS: each row of YtcjfdfjimcapkaaGreatDoorRows.lean that lists a variable, with what it lists TIED to the program's text (the seventh form; the later family's looks); each row that meets fmt, with fmt's text TOLD by the authors' own Lean function (tested against real Go, not proved from fmt's source: count such statements apart). THE CARD IS WHAT COUNTS. Prove the row's statement (the work); the ties are given (YtcjfdfjimcapkaaGreatDoorTie.lean); close each card by the builder's one call (the guide's Derived/Test/ToyasCard.lean, 'card_holds'). Laid BY PROGRAM, IN A SANDBOX (cutbox-door.mjs). By AI agents, Wed Nov 11 2026. No macro, syntax, notation, axiom, sorry.
-/
import Derived.Test.YtcjfdfjimcapkaaGreatDoorRows
import GoSem.ClaimSeven
namespace Go.Proofs.YtcjfdfjimcapkaaGreatDoor
namespace Rows

/-- THE TIED CARD OF 'laws.FnExactReadLevel'. -/
def fnExactReadLevelCard : Claim7 := { stood := { row := fnExactReadLevelRow, standIns := [], harness := (true, "dcf8666db690acf39834dc3e27338bcc9d194f973249ffb37477e48d88d9460d"), looks := true }, kinds := [], alts := [], laidByText := true, laidKinds := [.data, .data, .data, .data, .sentinel, .sentinel, .pinned], laidTests := true, laidLooks := .later }
def FnExactReadLevelCardSaid : Prop := Claim7.holds Tryz.pinned (.plain (OpenSpec.ofChange fnExactReadLevelSpec)) fnExactReadLevelCard

/-- THE SECOND FORM's CARD OF 'laws.FnExactReadLevel'. -/
def fnExactReadLevelUptoCard : Claim7 := { stood := { row := fnExactReadLevelUptoRow, standIns := [], harness := (true, "dcf8666db690acf39834dc3e27338bcc9d194f973249ffb37477e48d88d9460d"), looks := true }, kinds := [], alts := [], laidByText := true, laidKinds := [.data, .data, .data, .data, .sentinel, .sentinel, .pinned], laidTests := true, laidLooks := .later }
def FnExactReadLevelUptoCardSaid : Prop := Claim7.holds Tryz.pinned (.plain (OpenSpec.upto fnExactReadLevelSpec)) fnExactReadLevelUptoCard
end Rows
end Go.Proofs.YtcjfdfjimcapkaaGreatDoor
