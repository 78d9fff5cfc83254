/-
  DERIVED. GIVEN WITH THE SEED: THE CARDS: each row of YtmceanphadildaaGreatDoorRows.lean that lists a variable, with what it lists TIED to the program's text (the seventh form; the later family's looks); each row that meets fmt, with fmt's text TOLD by the authors' own Lean function (tested against real Go, not proved from fmt's source: count such statements apart). THE CARD IS WHAT COUNTS. Prove the row's statement (the work); the ties are given (YtmceanphadildaaGreatDoorTie.lean); close each card by the builder's one call (the guide's Derived/Test/ToyasCard.lean, 'card_holds'). Laid BY PROGRAM, IN A SANDBOX (cutbox-door.mjs). By AI agents, Wed Nov 11 2026. No macro, syntax, notation, axiom, sorry.
-/
import Derived.Test.YtmceanphadildaaGreatDoorRows
import GoSem.ClaimSeven
namespace Go.Proofs.YtmceanphadildaaGreatDoor
namespace Rows

/-- THE TIED CARD OF 'laws.FnSimplifySpace'. -/
def fnSimplifySpaceCard : Claim7 := { stood := { row := fnSimplifySpaceRow, standIns := [], harness := (true, "c544b0f4e6486befebb178da6a95dd9372605016b212c1c97d772feae7577687"), looks := false }, kinds := [], alts := [], laidByText := true, laidKinds := [.data, .data, .data], laidTests := true, laidLooks := .later }
def FnSimplifySpaceCardSaid : Prop := Claim7.holds Tryz.pinned (.plain (OpenSpec.ofChange fnSimplifySpaceSpec)) fnSimplifySpaceCard

/-- THE TIED CARD OF 'laws.FnExactRunSpace'. -/
def fnExactRunSpaceCard : Claim7 := { stood := { row := fnExactRunSpaceRow, standIns := [], harness := (true, "c544b0f4e6486befebb178da6a95dd9372605016b212c1c97d772feae7577687"), looks := false }, kinds := [], alts := [], laidByText := true, laidKinds := [.data, .data, .data], laidTests := true, laidLooks := .later }
def FnExactRunSpaceCardSaid : Prop := Claim7.holds Tryz.pinned (.plain (OpenSpec.ofChange fnExactRunSpaceSpec)) fnExactRunSpaceCard

/-- THE TIED CARD OF 'laws.FnRunSpace'. -/
def fnRunSpaceCard : Claim7 := { stood := { row := fnRunSpaceRow, standIns := [], harness := (true, "c544b0f4e6486befebb178da6a95dd9372605016b212c1c97d772feae7577687"), looks := false }, kinds := [], alts := [], laidByText := true, laidKinds := [.data, .data, .data], laidTests := true, laidLooks := .later }
def FnRunSpaceCardSaid : Prop := Claim7.holds Tryz.pinned (.plain (OpenSpec.ofChange fnRunSpaceSpec)) fnRunSpaceCard

/-- THE SECOND FORM's CARD OF 'laws.FnSimplifySpace'. -/
def fnSimplifySpaceUptoCard : Claim7 := { stood := { row := fnSimplifySpaceUptoRow, standIns := [], harness := (true, "c544b0f4e6486befebb178da6a95dd9372605016b212c1c97d772feae7577687"), looks := false }, kinds := [], alts := [], laidByText := true, laidKinds := [.data, .data, .data], laidTests := true, laidLooks := .later }
def FnSimplifySpaceUptoCardSaid : Prop := Claim7.holds Tryz.pinned (.plain (OpenSpec.upto fnSimplifySpaceSpec)) fnSimplifySpaceUptoCard

/-- THE SECOND FORM's CARD OF 'laws.FnExactRunSpace'. -/
def fnExactRunSpaceUptoCard : Claim7 := { stood := { row := fnExactRunSpaceUptoRow, standIns := [], harness := (true, "c544b0f4e6486befebb178da6a95dd9372605016b212c1c97d772feae7577687"), looks := false }, kinds := [], alts := [], laidByText := true, laidKinds := [.data, .data, .data], laidTests := true, laidLooks := .later }
def FnExactRunSpaceUptoCardSaid : Prop := Claim7.holds Tryz.pinned (.plain (OpenSpec.upto fnExactRunSpaceSpec)) fnExactRunSpaceUptoCard

/-- THE SECOND FORM's CARD OF 'laws.FnRunSpace'. -/
def fnRunSpaceUptoCard : Claim7 := { stood := { row := fnRunSpaceUptoRow, standIns := [], harness := (true, "c544b0f4e6486befebb178da6a95dd9372605016b212c1c97d772feae7577687"), looks := false }, kinds := [], alts := [], laidByText := true, laidKinds := [.data, .data, .data], laidTests := true, laidLooks := .later }
def FnRunSpaceUptoCardSaid : Prop := Claim7.holds Tryz.pinned (.plain (OpenSpec.upto fnRunSpaceSpec)) fnRunSpaceUptoCard
end Rows
end Go.Proofs.YtmceanphadildaaGreatDoor
