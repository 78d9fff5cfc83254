/-
  DERIVED. GIVEN WITH THE SEED: THE CARDS: each row of YtbdacdnffkhgeaaGreatDoorRows.lean that lists a variable, with what it lists TIED to the program's text (the seventh form; the later family's looks); each row that meets fmt, with fmt's text TOLD by the authors' own Lean function (tested against real Go, not proved from fmt's source: count such statements apart). THE CARD IS WHAT COUNTS. Prove the row's statement (the work); the ties are given (YtbdacdnffkhgeaaGreatDoorTie.lean); close each card by the builder's one call (the guide's Derived/Test/ToyasCard.lean, 'card_holds'). Laid BY PROGRAM, IN A SANDBOX (cutbox-door.mjs). By AI agents, Wed Nov 11 2026. No macro, syntax, notation, axiom, sorry.
-/
import Derived.Test.YtbdacdnffkhgeaaGreatDoorRows
import GoSem.ClaimSeven
namespace Go.Proofs.YtbdacdnffkhgeaaGreatDoor
namespace Rows

/-- THE TIED CARD OF 'laws.FnInferErase'. -/
def fnInferEraseCard : Claim7 := { stood := { row := fnInferEraseRow, standIns := [], harness := (true, "41334398220290caca872de3f1b4a4ed3433d8daf2d7dd88a713e5cc01529746"), looks := false }, kinds := [], alts := [], laidByText := true, laidKinds := [.data, .data, .data], laidTests := true, laidLooks := .later }
def FnInferEraseCardSaid : Prop := Claim7.holds Tryz.pinned (.plain (OpenSpec.ofChange fnInferEraseSpec)) fnInferEraseCard

/-- THE TIED CARD OF 'laws.FnInferRun'. -/
def fnInferRunCard : Claim7 := { stood := { row := fnInferRunRow, standIns := [], harness := (true, "41334398220290caca872de3f1b4a4ed3433d8daf2d7dd88a713e5cc01529746"), looks := false }, kinds := [], alts := [], laidByText := true, laidKinds := [.data, .data, .data], laidTests := true, laidLooks := .later }
def FnInferRunCardSaid : Prop := Claim7.holds Tryz.pinned (.plain (OpenSpec.ofChange fnInferRunSpec)) fnInferRunCard

/-- THE SECOND FORM's CARD OF 'laws.FnInferErase'. -/
def fnInferEraseUptoCard : Claim7 := { stood := { row := fnInferEraseUptoRow, standIns := [], harness := (true, "41334398220290caca872de3f1b4a4ed3433d8daf2d7dd88a713e5cc01529746"), looks := false }, kinds := [], alts := [], laidByText := true, laidKinds := [.data, .data, .data], laidTests := true, laidLooks := .later }
def FnInferEraseUptoCardSaid : Prop := Claim7.holds Tryz.pinned (.plain (OpenSpec.upto fnInferEraseSpec)) fnInferEraseUptoCard

/-- THE SECOND FORM's CARD OF 'laws.FnInferRun'. -/
def fnInferRunUptoCard : Claim7 := { stood := { row := fnInferRunUptoRow, standIns := [], harness := (true, "41334398220290caca872de3f1b4a4ed3433d8daf2d7dd88a713e5cc01529746"), looks := false }, kinds := [], alts := [], laidByText := true, laidKinds := [.data, .data, .data], laidTests := true, laidLooks := .later }
def FnInferRunUptoCardSaid : Prop := Claim7.holds Tryz.pinned (.plain (OpenSpec.upto fnInferRunSpec)) fnInferRunUptoCard
end Rows
end Go.Proofs.YtbdacdnffkhgeaaGreatDoor
