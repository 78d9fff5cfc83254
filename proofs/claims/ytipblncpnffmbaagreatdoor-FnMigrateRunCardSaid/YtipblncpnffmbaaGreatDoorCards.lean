/-
  DERIVED. GIVEN WITH THE SEED: THE CARDS: each row of YtipblncpnffmbaaGreatDoorRows.lean that lists a variable, with what it lists TIED to the program's text (the seventh form; the later family's looks); each row that meets fmt, with fmt's text TOLD by the authors' own Lean function (tested against real Go, not proved from fmt's source: count such statements apart). THE CARD IS WHAT COUNTS. Prove the row's statement (the work); the ties are given (YtipblncpnffmbaaGreatDoorTie.lean); close each card by the builder's one call (the guide's Derived/Test/ToyasCard.lean, 'card_holds'). Laid BY PROGRAM, IN A SANDBOX (cutbox-door.mjs). By AI agents, Wed Nov 11 2026. No macro, syntax, notation, axiom, sorry.
-/
import Derived.Test.YtipblncpnffmbaaGreatDoorRows
import GoSem.ClaimSeven
namespace Go.Proofs.YtipblncpnffmbaaGreatDoor
namespace Rows

/-- THE TIED CARD OF 'laws.FnMigrateRun'. -/
def fnMigrateRunCard : Claim7 := { stood := { row := fnMigrateRunRow, standIns := [], harness := (true, "3fb8ad7e7d6a1113703784d5a7638753728f1233a30f553a9be8a1940978831d"), looks := false }, kinds := [], alts := [], laidByText := true, laidKinds := [.data, .data, .data], laidTests := true, laidLooks := .later }
def FnMigrateRunCardSaid : Prop := Claim7.holds Tryz.pinned (.plain (OpenSpec.ofChange fnMigrateRunSpec)) fnMigrateRunCard

/-- THE SECOND FORM's CARD OF 'laws.FnMigrateRun'. -/
def fnMigrateRunUptoCard : Claim7 := { stood := { row := fnMigrateRunUptoRow, standIns := [], harness := (true, "3fb8ad7e7d6a1113703784d5a7638753728f1233a30f553a9be8a1940978831d"), looks := false }, kinds := [], alts := [], laidByText := true, laidKinds := [.data, .data, .data], laidTests := true, laidLooks := .later }
def FnMigrateRunUptoCardSaid : Prop := Claim7.holds Tryz.pinned (.plain (OpenSpec.upto fnMigrateRunSpec)) fnMigrateRunUptoCard
end Rows
end Go.Proofs.YtipblncpnffmbaaGreatDoor
