/-
  DERIVED. GIVEN WITH THE SEED: THE CARDS: each row of YtaoaeilognhfpaaDoorRows.lean that lists a variable, with what it lists TIED to the program's text (the seventh form; the later family's looks); each row that meets fmt, with fmt's text TOLD by the authors' own Lean function (tested against real Go, not proved from fmt's source: count such statements apart). THE CARD IS WHAT COUNTS. Prove the row's statement (the work); the ties are given (YtaoaeilognhfpaaDoorTie.lean); close each card by the builder's one call (the guide's Derived/Test/ToyasCard.lean, 'card_holds'). Laid BY PROGRAM, IN A SANDBOX (cutbox-door.mjs). By AI agents, Wed Nov 11 2026. No macro, syntax, notation, axiom, sorry.
-/
import Derived.Test.YtaoaeilognhfpaaDoorRows
import GoSem.ClaimSeven
namespace Go.Proofs.YtaoaeilognhfpaaDoor
namespace Rows

/-- THE TIED CARD OF 'laws.FnExactRunOps'. -/
def fnExactRunOpsCard : Claim7 := { stood := { row := fnExactRunOpsRow, standIns := [], harness := (true, "44bf44c58a6e0193d7969fa2723ff857d8a9d0fb3db25960c7695ca2078d1501"), looks := false }, kinds := [], alts := [], laidByText := true, laidKinds := [.data, .data, .data], laidTests := true, laidLooks := .later }
def FnExactRunOpsCardSaid : Prop := Claim7.holds Tryd.pinned (.plain (OpenSpec.ofChange fnExactRunOpsSpec)) fnExactRunOpsCard

/-- THE TIED CARD OF 'laws.FnRunJump'. -/
def fnRunJumpCard : Claim7 := { stood := { row := fnRunJumpRow, standIns := [], harness := (true, "44bf44c58a6e0193d7969fa2723ff857d8a9d0fb3db25960c7695ca2078d1501"), looks := false }, kinds := [], alts := [], laidByText := true, laidKinds := [.data, .data, .data], laidTests := true, laidLooks := .later }
def FnRunJumpCardSaid : Prop := Claim7.holds Tryd.pinned (.plain (OpenSpec.ofChange fnRunJumpSpec)) fnRunJumpCard

/-- THE TIED CARD OF 'laws.FnRunOps'. -/
def fnRunOpsCard : Claim7 := { stood := { row := fnRunOpsRow, standIns := [], harness := (true, "44bf44c58a6e0193d7969fa2723ff857d8a9d0fb3db25960c7695ca2078d1501"), looks := false }, kinds := [], alts := [], laidByText := true, laidKinds := [.data, .data, .data], laidTests := true, laidLooks := .later }
def FnRunOpsCardSaid : Prop := Claim7.holds Tryd.pinned (.plain (OpenSpec.ofChange fnRunOpsSpec)) fnRunOpsCard

/-- THE SECOND FORM's CARD OF 'laws.FnExactRunOps'. -/
def fnExactRunOpsUptoCard : Claim7 := { stood := { row := fnExactRunOpsUptoRow, standIns := [], harness := (true, "44bf44c58a6e0193d7969fa2723ff857d8a9d0fb3db25960c7695ca2078d1501"), looks := false }, kinds := [], alts := [], laidByText := true, laidKinds := [.data, .data, .data], laidTests := true, laidLooks := .later }
def FnExactRunOpsUptoCardSaid : Prop := Claim7.holds Tryd.pinned (.plain (OpenSpec.upto fnExactRunOpsSpec)) fnExactRunOpsUptoCard

/-- THE SECOND FORM's CARD OF 'laws.FnRunJump'. -/
def fnRunJumpUptoCard : Claim7 := { stood := { row := fnRunJumpUptoRow, standIns := [], harness := (true, "44bf44c58a6e0193d7969fa2723ff857d8a9d0fb3db25960c7695ca2078d1501"), looks := false }, kinds := [], alts := [], laidByText := true, laidKinds := [.data, .data, .data], laidTests := true, laidLooks := .later }
def FnRunJumpUptoCardSaid : Prop := Claim7.holds Tryd.pinned (.plain (OpenSpec.upto fnRunJumpSpec)) fnRunJumpUptoCard

/-- THE SECOND FORM's CARD OF 'laws.FnRunOps'. -/
def fnRunOpsUptoCard : Claim7 := { stood := { row := fnRunOpsUptoRow, standIns := [], harness := (true, "44bf44c58a6e0193d7969fa2723ff857d8a9d0fb3db25960c7695ca2078d1501"), looks := false }, kinds := [], alts := [], laidByText := true, laidKinds := [.data, .data, .data], laidTests := true, laidLooks := .later }
def FnRunOpsUptoCardSaid : Prop := Claim7.holds Tryd.pinned (.plain (OpenSpec.upto fnRunOpsSpec)) fnRunOpsUptoCard
end Rows
end Go.Proofs.YtaoaeilognhfpaaDoor
