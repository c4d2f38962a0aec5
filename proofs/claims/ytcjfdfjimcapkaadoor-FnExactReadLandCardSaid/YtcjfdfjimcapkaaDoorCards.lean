/-
  DERIVED. GIVEN WITH THE SEED: THE CARDS: each row of YtcjfdfjimcapkaaDoorRows.lean that lists a variable, with what it lists TIED to the program's text (the seventh form; the later family's looks); each row that meets fmt, with fmt's text TOLD by the authors' own Lean function (tested against real Go, not proved from fmt's source: count such statements apart). THE CARD IS WHAT COUNTS. Prove the row's statement (the work); the ties are given (YtcjfdfjimcapkaaDoorTie.lean); close each card by the builder's one call (the guide's Derived/Test/ToyasCard.lean, 'card_holds'). Laid BY PROGRAM, IN A SANDBOX (cutbox-door.mjs). By AI agents, Wed Nov 11 2026. No macro, syntax, notation, axiom, sorry.
-/
import Derived.Test.YtcjfdfjimcapkaaDoorRows
import GoSem.ClaimSeven
namespace Go.Proofs.YtcjfdfjimcapkaaDoor
namespace Rows

/-- THE TIED CARD OF 'laws.FnExactReadCurve'. -/
def fnExactReadCurveCard : Claim7 := { stood := { row := fnExactReadCurveRow, standIns := [], harness := (true, "5a76bc7d22a6e055a71b6d5c4799b06b3f90c16dc3f45fc1f61d41ee975d46af"), looks := true }, kinds := [], alts := [], laidByText := true, laidKinds := [.data, .data, .data, .sentinel, .sentinel], laidTests := true, laidLooks := .later }
def FnExactReadCurveCardSaid : Prop := Claim7.holds Tryd.pinned (.plain (OpenSpec.ofChange fnExactReadCurveSpec)) fnExactReadCurveCard

/-- THE TIED CARD OF 'laws.FnExactReadNet'. -/
def fnExactReadNetCard : Claim7 := { stood := { row := fnExactReadNetRow, standIns := [], harness := (true, "5a76bc7d22a6e055a71b6d5c4799b06b3f90c16dc3f45fc1f61d41ee975d46af"), looks := true }, kinds := [], alts := [], laidByText := true, laidKinds := [.data, .data, .data, .sentinel, .sentinel], laidTests := true, laidLooks := .later }
def FnExactReadNetCardSaid : Prop := Claim7.holds Tryd.pinned (.plain (OpenSpec.ofChange fnExactReadNetSpec)) fnExactReadNetCard

/-- THE TIED CARD OF 'laws.FnExactReadLand'. -/
def fnExactReadLandCard : Claim7 := { stood := { row := fnExactReadLandRow, standIns := [], harness := (true, "5a76bc7d22a6e055a71b6d5c4799b06b3f90c16dc3f45fc1f61d41ee975d46af"), looks := true }, kinds := [], alts := [], laidByText := true, laidKinds := [.data, .data, .data, .sentinel, .sentinel], laidTests := true, laidLooks := .later }
def FnExactReadLandCardSaid : Prop := Claim7.holds Tryd.pinned (.plain (OpenSpec.ofChange fnExactReadLandSpec)) fnExactReadLandCard

/-- THE SECOND FORM's CARD OF 'laws.FnExactReadCurve'. -/
def fnExactReadCurveUptoCard : Claim7 := { stood := { row := fnExactReadCurveUptoRow, standIns := [], harness := (true, "5a76bc7d22a6e055a71b6d5c4799b06b3f90c16dc3f45fc1f61d41ee975d46af"), looks := true }, kinds := [], alts := [], laidByText := true, laidKinds := [.data, .data, .data, .sentinel, .sentinel], laidTests := true, laidLooks := .later }
def FnExactReadCurveUptoCardSaid : Prop := Claim7.holds Tryd.pinned (.plain (OpenSpec.upto fnExactReadCurveSpec)) fnExactReadCurveUptoCard

/-- THE SECOND FORM's CARD OF 'laws.FnExactReadNet'. -/
def fnExactReadNetUptoCard : Claim7 := { stood := { row := fnExactReadNetUptoRow, standIns := [], harness := (true, "5a76bc7d22a6e055a71b6d5c4799b06b3f90c16dc3f45fc1f61d41ee975d46af"), looks := true }, kinds := [], alts := [], laidByText := true, laidKinds := [.data, .data, .data, .sentinel, .sentinel], laidTests := true, laidLooks := .later }
def FnExactReadNetUptoCardSaid : Prop := Claim7.holds Tryd.pinned (.plain (OpenSpec.upto fnExactReadNetSpec)) fnExactReadNetUptoCard

/-- THE SECOND FORM's CARD OF 'laws.FnExactReadLand'. -/
def fnExactReadLandUptoCard : Claim7 := { stood := { row := fnExactReadLandUptoRow, standIns := [], harness := (true, "5a76bc7d22a6e055a71b6d5c4799b06b3f90c16dc3f45fc1f61d41ee975d46af"), looks := true }, kinds := [], alts := [], laidByText := true, laidKinds := [.data, .data, .data, .sentinel, .sentinel], laidTests := true, laidLooks := .later }
def FnExactReadLandUptoCardSaid : Prop := Claim7.holds Tryd.pinned (.plain (OpenSpec.upto fnExactReadLandSpec)) fnExactReadLandUptoCard
end Rows
end Go.Proofs.YtcjfdfjimcapkaaDoor
