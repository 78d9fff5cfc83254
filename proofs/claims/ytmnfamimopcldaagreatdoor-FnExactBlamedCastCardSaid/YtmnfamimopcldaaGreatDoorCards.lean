/-
  DERIVED. GIVEN WITH THE SEED: THE CARDS: each row of YtmnfamimopcldaaGreatDoorRows.lean that lists a variable, with what it lists TIED to the program's text (the seventh form; the later family's looks); each row that meets fmt, with fmt's text TOLD by the authors' own Lean function (tested against real Go, not proved from fmt's source: count such statements apart). THE CARD IS WHAT COUNTS. Prove the row's statement (the work); the ties are given (YtmnfamimopcldaaGreatDoorTie.lean); close each card by the builder's one call (the guide's Derived/Test/ToyasCard.lean, 'card_holds'). Laid BY PROGRAM, IN A SANDBOX (cutbox-door.mjs). By AI agents, Wed Nov 11 2026. No macro, syntax, notation, axiom, sorry.
-/
import Derived.Test.YtmnfamimopcldaaGreatDoorRows
import GoSem.ClaimSeven
namespace Go.Proofs.YtmnfamimopcldaaGreatDoor
namespace Rows

/-- THE TIED CARD OF 'laws.FnExactCompareRuns'. -/
def fnExactCompareRunsCard : Claim7 := { stood := { row := fnExactCompareRunsRow, standIns := [], harness := (true, "8d6e4b241f23c79351f71842b0b722abc041ebbfebdd973a7ef63bff9d5bf706"), looks := false }, kinds := [], alts := [], laidByText := true, laidKinds := [.data, .data, .data], laidTests := true, laidLooks := .later }
def FnExactCompareRunsCardSaid : Prop := Claim7.holds Tryz.pinned (.plain (OpenSpec.ofChange fnExactCompareRunsSpec)) fnExactCompareRunsCard

/-- THE TIED CARD OF 'laws.FnExactBlamedCast'. -/
def fnExactBlamedCastCard : Claim7 := { stood := { row := fnExactBlamedCastRow, standIns := [], harness := (true, "8d6e4b241f23c79351f71842b0b722abc041ebbfebdd973a7ef63bff9d5bf706"), looks := false }, kinds := [], alts := [], laidByText := true, laidKinds := [.data, .data, .data], laidTests := true, laidLooks := .later }
def FnExactBlamedCastCardSaid : Prop := Claim7.holds Tryz.pinned (.plain (OpenSpec.ofChange fnExactBlamedCastSpec)) fnExactBlamedCastCard

/-- THE SECOND FORM's CARD OF 'laws.FnExactCompareRuns'. -/
def fnExactCompareRunsUptoCard : Claim7 := { stood := { row := fnExactCompareRunsUptoRow, standIns := [], harness := (true, "8d6e4b241f23c79351f71842b0b722abc041ebbfebdd973a7ef63bff9d5bf706"), looks := false }, kinds := [], alts := [], laidByText := true, laidKinds := [.data, .data, .data], laidTests := true, laidLooks := .later }
def FnExactCompareRunsUptoCardSaid : Prop := Claim7.holds Tryz.pinned (.plain (OpenSpec.upto fnExactCompareRunsSpec)) fnExactCompareRunsUptoCard

/-- THE SECOND FORM's CARD OF 'laws.FnExactBlamedCast'. -/
def fnExactBlamedCastUptoCard : Claim7 := { stood := { row := fnExactBlamedCastUptoRow, standIns := [], harness := (true, "8d6e4b241f23c79351f71842b0b722abc041ebbfebdd973a7ef63bff9d5bf706"), looks := false }, kinds := [], alts := [], laidByText := true, laidKinds := [.data, .data, .data], laidTests := true, laidLooks := .later }
def FnExactBlamedCastUptoCardSaid : Prop := Claim7.holds Tryz.pinned (.plain (OpenSpec.upto fnExactBlamedCastSpec)) fnExactBlamedCastUptoCard
end Rows
end Go.Proofs.YtmnfamimopcldaaGreatDoor
