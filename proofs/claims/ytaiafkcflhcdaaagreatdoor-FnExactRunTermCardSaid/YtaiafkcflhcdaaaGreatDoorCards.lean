/-
  DERIVED. GIVEN WITH THE SEED: THE CARDS: each row of YtaiafkcflhcdaaaGreatDoorRows.lean that lists a variable, with what it lists TIED to the program's text (the seventh form; the later family's looks); each row that meets fmt, with fmt's text TOLD by the authors' own Lean function (tested against real Go, not proved from fmt's source: count such statements apart). THE CARD IS WHAT COUNTS. Prove the row's statement (the work); the ties are given (YtaiafkcflhcdaaaGreatDoorTie.lean); close each card by the builder's one call (the guide's Derived/Test/ToyasCard.lean, 'card_holds'). Laid BY PROGRAM, IN A SANDBOX (cutbox-door.mjs). By AI agents, Wed Nov 11 2026. No macro, syntax, notation, axiom, sorry.
-/
import Derived.Test.YtaiafkcflhcdaaaGreatDoorRows
import GoSem.ClaimSeven
namespace Go.Proofs.YtaiafkcflhcdaaaGreatDoor
namespace Rows

/-- THE TIED CARD OF 'laws.FnExactRunTerm'. -/
def fnExactRunTermCard : Claim7 := { stood := { row := fnExactRunTermRow, standIns := [], harness := (true, "10a9d09a65269453cefe8fb38ba1ece71e1e20b2f38d1353f942ed179cf5ad2e"), looks := false }, kinds := [], alts := [], laidByText := true, laidKinds := [.data, .data, .data], laidTests := true, laidLooks := .later }
def FnExactRunTermCardSaid : Prop := Claim7.holds Tryz.pinned (.plain (OpenSpec.ofChange fnExactRunTermSpec)) fnExactRunTermCard

/-- THE TIED CARD OF 'laws.FnEvalCast'. -/
def fnEvalCastCard : Claim7 := { stood := { row := fnEvalCastRow, standIns := [], harness := (true, "10a9d09a65269453cefe8fb38ba1ece71e1e20b2f38d1353f942ed179cf5ad2e"), looks := false }, kinds := [], alts := [], laidByText := true, laidKinds := [.data, .data, .data], laidTests := true, laidLooks := .later }
def FnEvalCastCardSaid : Prop := Claim7.holds Tryz.pinned (.plain (OpenSpec.ofChange fnEvalCastSpec)) fnEvalCastCard

/-- THE TIED CARD OF 'laws.FnExactCompareRuns'. -/
def fnExactCompareRunsCard : Claim7 := { stood := { row := fnExactCompareRunsRow, standIns := [], harness := (true, "10a9d09a65269453cefe8fb38ba1ece71e1e20b2f38d1353f942ed179cf5ad2e"), looks := false }, kinds := [], alts := [], laidByText := true, laidKinds := [.data, .data, .data], laidTests := true, laidLooks := .later }
def FnExactCompareRunsCardSaid : Prop := Claim7.holds Tryz.pinned (.plain (OpenSpec.ofChange fnExactCompareRunsSpec)) fnExactCompareRunsCard

/-- THE TIED CARD OF 'laws.FnExactBlamedCast'. -/
def fnExactBlamedCastCard : Claim7 := { stood := { row := fnExactBlamedCastRow, standIns := [], harness := (true, "10a9d09a65269453cefe8fb38ba1ece71e1e20b2f38d1353f942ed179cf5ad2e"), looks := false }, kinds := [], alts := [], laidByText := true, laidKinds := [.data, .data, .data], laidTests := true, laidLooks := .later }
def FnExactBlamedCastCardSaid : Prop := Claim7.holds Tryz.pinned (.plain (OpenSpec.ofChange fnExactBlamedCastSpec)) fnExactBlamedCastCard

/-- THE TIED CARD OF 'laws.FnExactConfigRuns'. -/
def fnExactConfigRunsCard : Claim7 := { stood := { row := fnExactConfigRunsRow, standIns := [], harness := (true, "10a9d09a65269453cefe8fb38ba1ece71e1e20b2f38d1353f942ed179cf5ad2e"), looks := false }, kinds := [], alts := [], laidByText := true, laidKinds := [.data, .data, .data], laidTests := true, laidLooks := .later }
def FnExactConfigRunsCardSaid : Prop := Claim7.holds Tryz.pinned (.plain (OpenSpec.ofChange fnExactConfigRunsSpec)) fnExactConfigRunsCard

/-- THE TIED CARD OF 'laws.FnExactFailingSlots'. -/
def fnExactFailingSlotsCard : Claim7 := { stood := { row := fnExactFailingSlotsRow, standIns := [], harness := (true, "10a9d09a65269453cefe8fb38ba1ece71e1e20b2f38d1353f942ed179cf5ad2e"), looks := false }, kinds := [], alts := [], laidByText := true, laidKinds := [.data, .data, .data], laidTests := true, laidLooks := .later }
def FnExactFailingSlotsCardSaid : Prop := Claim7.holds Tryz.pinned (.plain (OpenSpec.ofChange fnExactFailingSlotsSpec)) fnExactFailingSlotsCard

/-- THE TIED CARD OF 'laws.FnConfigFirst'. -/
def fnConfigFirstCard : Claim7 := { stood := { row := fnConfigFirstRow, standIns := [], harness := (true, "10a9d09a65269453cefe8fb38ba1ece71e1e20b2f38d1353f942ed179cf5ad2e"), looks := false }, kinds := [], alts := [], laidByText := true, laidKinds := [.data, .data, .data], laidTests := true, laidLooks := .later }
def FnConfigFirstCardSaid : Prop := Claim7.holds Tryz.pinned (.plain (OpenSpec.ofChange fnConfigFirstSpec)) fnConfigFirstCard

/-- THE SECOND FORM's CARD OF 'laws.FnExactRunTerm'. -/
def fnExactRunTermUptoCard : Claim7 := { stood := { row := fnExactRunTermUptoRow, standIns := [], harness := (true, "10a9d09a65269453cefe8fb38ba1ece71e1e20b2f38d1353f942ed179cf5ad2e"), looks := false }, kinds := [], alts := [], laidByText := true, laidKinds := [.data, .data, .data], laidTests := true, laidLooks := .later }
def FnExactRunTermUptoCardSaid : Prop := Claim7.holds Tryz.pinned (.plain (OpenSpec.upto fnExactRunTermSpec)) fnExactRunTermUptoCard

/-- THE SECOND FORM's CARD OF 'laws.FnEvalCast'. -/
def fnEvalCastUptoCard : Claim7 := { stood := { row := fnEvalCastUptoRow, standIns := [], harness := (true, "10a9d09a65269453cefe8fb38ba1ece71e1e20b2f38d1353f942ed179cf5ad2e"), looks := false }, kinds := [], alts := [], laidByText := true, laidKinds := [.data, .data, .data], laidTests := true, laidLooks := .later }
def FnEvalCastUptoCardSaid : Prop := Claim7.holds Tryz.pinned (.plain (OpenSpec.upto fnEvalCastSpec)) fnEvalCastUptoCard

/-- THE SECOND FORM's CARD OF 'laws.FnExactCompareRuns'. -/
def fnExactCompareRunsUptoCard : Claim7 := { stood := { row := fnExactCompareRunsUptoRow, standIns := [], harness := (true, "10a9d09a65269453cefe8fb38ba1ece71e1e20b2f38d1353f942ed179cf5ad2e"), looks := false }, kinds := [], alts := [], laidByText := true, laidKinds := [.data, .data, .data], laidTests := true, laidLooks := .later }
def FnExactCompareRunsUptoCardSaid : Prop := Claim7.holds Tryz.pinned (.plain (OpenSpec.upto fnExactCompareRunsSpec)) fnExactCompareRunsUptoCard

/-- THE SECOND FORM's CARD OF 'laws.FnExactBlamedCast'. -/
def fnExactBlamedCastUptoCard : Claim7 := { stood := { row := fnExactBlamedCastUptoRow, standIns := [], harness := (true, "10a9d09a65269453cefe8fb38ba1ece71e1e20b2f38d1353f942ed179cf5ad2e"), looks := false }, kinds := [], alts := [], laidByText := true, laidKinds := [.data, .data, .data], laidTests := true, laidLooks := .later }
def FnExactBlamedCastUptoCardSaid : Prop := Claim7.holds Tryz.pinned (.plain (OpenSpec.upto fnExactBlamedCastSpec)) fnExactBlamedCastUptoCard

/-- THE SECOND FORM's CARD OF 'laws.FnExactConfigRuns'. -/
def fnExactConfigRunsUptoCard : Claim7 := { stood := { row := fnExactConfigRunsUptoRow, standIns := [], harness := (true, "10a9d09a65269453cefe8fb38ba1ece71e1e20b2f38d1353f942ed179cf5ad2e"), looks := false }, kinds := [], alts := [], laidByText := true, laidKinds := [.data, .data, .data], laidTests := true, laidLooks := .later }
def FnExactConfigRunsUptoCardSaid : Prop := Claim7.holds Tryz.pinned (.plain (OpenSpec.upto fnExactConfigRunsSpec)) fnExactConfigRunsUptoCard

/-- THE SECOND FORM's CARD OF 'laws.FnExactFailingSlots'. -/
def fnExactFailingSlotsUptoCard : Claim7 := { stood := { row := fnExactFailingSlotsUptoRow, standIns := [], harness := (true, "10a9d09a65269453cefe8fb38ba1ece71e1e20b2f38d1353f942ed179cf5ad2e"), looks := false }, kinds := [], alts := [], laidByText := true, laidKinds := [.data, .data, .data], laidTests := true, laidLooks := .later }
def FnExactFailingSlotsUptoCardSaid : Prop := Claim7.holds Tryz.pinned (.plain (OpenSpec.upto fnExactFailingSlotsSpec)) fnExactFailingSlotsUptoCard

/-- THE SECOND FORM's CARD OF 'laws.FnConfigFirst'. -/
def fnConfigFirstUptoCard : Claim7 := { stood := { row := fnConfigFirstUptoRow, standIns := [], harness := (true, "10a9d09a65269453cefe8fb38ba1ece71e1e20b2f38d1353f942ed179cf5ad2e"), looks := false }, kinds := [], alts := [], laidByText := true, laidKinds := [.data, .data, .data], laidTests := true, laidLooks := .later }
def FnConfigFirstUptoCardSaid : Prop := Claim7.holds Tryz.pinned (.plain (OpenSpec.upto fnConfigFirstSpec)) fnConfigFirstUptoCard
end Rows
end Go.Proofs.YtaiafkcflhcdaaaGreatDoor
