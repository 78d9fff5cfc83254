/-
  DERIVED. GIVEN WITH THE SEED: THE CARDS: each row of YtebfignffjhnhaaGreatDoorRows.lean that lists a variable, with what it lists TIED to the program's text (the seventh form; the later family's looks); each row that meets fmt, with fmt's text TOLD by the authors' own Lean function (tested against real Go, not proved from fmt's source: count such statements apart). THE CARD IS WHAT COUNTS. Prove the row's statement (the work); the ties are given (YtebfignffjhnhaaGreatDoorTie.lean); close each card by the builder's one call (the guide's Derived/Test/ToyasCard.lean, 'card_holds'). Laid BY PROGRAM, IN A SANDBOX (cutbox-door.mjs). By AI agents, Wed Nov 11 2026. No macro, syntax, notation, axiom, sorry.
-/
import Derived.Test.YtebfignffjhnhaaGreatDoorRows
import GoSem.ClaimSeven
namespace Go.Proofs.YtebfignffjhnhaaGreatDoor
namespace Rows

/-- THE TIED CARD OF 'laws.FnExactConfigRuns'. -/
def fnExactConfigRunsCard : Claim7 := { stood := { row := fnExactConfigRunsRow, standIns := [], harness := (true, "ea790d19f99cea639e7ce7aa0711fe3b9295540e1b9e32ecdd9c56dbe1a79d79"), looks := false }, kinds := [], alts := [], laidByText := true, laidKinds := [.data, .data, .data], laidTests := true, laidLooks := .later }
def FnExactConfigRunsCardSaid : Prop := Claim7.holds Tryz.pinned (.plain (OpenSpec.ofChange fnExactConfigRunsSpec)) fnExactConfigRunsCard

/-- THE TIED CARD OF 'laws.FnBlamedCast'. -/
def fnBlamedCastCard : Claim7 := { stood := { row := fnBlamedCastRow, standIns := [], harness := (true, "ea790d19f99cea639e7ce7aa0711fe3b9295540e1b9e32ecdd9c56dbe1a79d79"), looks := false }, kinds := [], alts := [], laidByText := true, laidKinds := [.data, .data, .data], laidTests := true, laidLooks := .later }
def FnBlamedCastCardSaid : Prop := Claim7.holds Tryz.pinned (.plain (OpenSpec.ofChange fnBlamedCastSpec)) fnBlamedCastCard

/-- THE TIED CARD OF 'laws.FnConfigRuns'. -/
def fnConfigRunsCard : Claim7 := { stood := { row := fnConfigRunsRow, standIns := [], harness := (true, "ea790d19f99cea639e7ce7aa0711fe3b9295540e1b9e32ecdd9c56dbe1a79d79"), looks := false }, kinds := [], alts := [], laidByText := true, laidKinds := [.data, .data, .data], laidTests := true, laidLooks := .later }
def FnConfigRunsCardSaid : Prop := Claim7.holds Tryz.pinned (.plain (OpenSpec.ofChange fnConfigRunsSpec)) fnConfigRunsCard

/-- THE TIED CARD OF 'laws.FnExactFailingSlots'. -/
def fnExactFailingSlotsCard : Claim7 := { stood := { row := fnExactFailingSlotsRow, standIns := [], harness := (true, "ea790d19f99cea639e7ce7aa0711fe3b9295540e1b9e32ecdd9c56dbe1a79d79"), looks := false }, kinds := [], alts := [], laidByText := true, laidKinds := [.data, .data, .data], laidTests := true, laidLooks := .later }
def FnExactFailingSlotsCardSaid : Prop := Claim7.holds Tryz.pinned (.plain (OpenSpec.ofChange fnExactFailingSlotsSpec)) fnExactFailingSlotsCard

/-- THE TIED CARD OF 'laws.FnConfigFirst'. -/
def fnConfigFirstCard : Claim7 := { stood := { row := fnConfigFirstRow, standIns := [], harness := (true, "ea790d19f99cea639e7ce7aa0711fe3b9295540e1b9e32ecdd9c56dbe1a79d79"), looks := false }, kinds := [], alts := [], laidByText := true, laidKinds := [.data, .data, .data], laidTests := true, laidLooks := .later }
def FnConfigFirstCardSaid : Prop := Claim7.holds Tryz.pinned (.plain (OpenSpec.ofChange fnConfigFirstSpec)) fnConfigFirstCard

/-- THE TIED CARD OF 'laws.FnConfigTexts'. -/
def fnConfigTextsCard : Claim7 := { stood := { row := fnConfigTextsRow, standIns := [], harness := (true, "ea790d19f99cea639e7ce7aa0711fe3b9295540e1b9e32ecdd9c56dbe1a79d79"), looks := false }, kinds := [], alts := [], laidByText := true, laidKinds := [.data, .data, .data], laidTests := true, laidLooks := .later }
def FnConfigTextsCardSaid : Prop := Claim7.holds Tryz.pinned (.plain (OpenSpec.ofChange fnConfigTextsSpec)) fnConfigTextsCard

/-- THE TIED CARD OF 'laws.FnFailingSlots'. -/
def fnFailingSlotsCard : Claim7 := { stood := { row := fnFailingSlotsRow, standIns := [], harness := (true, "ea790d19f99cea639e7ce7aa0711fe3b9295540e1b9e32ecdd9c56dbe1a79d79"), looks := false }, kinds := [], alts := [], laidByText := true, laidKinds := [.data, .data, .data], laidTests := true, laidLooks := .later }
def FnFailingSlotsCardSaid : Prop := Claim7.holds Tryz.pinned (.plain (OpenSpec.ofChange fnFailingSlotsSpec)) fnFailingSlotsCard

/-- THE TIED CARD OF 'laws.FnRunTerm'. -/
def fnRunTermCard : Claim7 := { stood := { row := fnRunTermRow, standIns := [], harness := (true, "ea790d19f99cea639e7ce7aa0711fe3b9295540e1b9e32ecdd9c56dbe1a79d79"), looks := false }, kinds := [], alts := [], laidByText := true, laidKinds := [.data, .data, .data], laidTests := true, laidLooks := .later }
def FnRunTermCardSaid : Prop := Claim7.holds Tryz.pinned (.plain (OpenSpec.ofChange fnRunTermSpec)) fnRunTermCard

/-- THE SECOND FORM's CARD OF 'laws.FnExactConfigRuns'. -/
def fnExactConfigRunsUptoCard : Claim7 := { stood := { row := fnExactConfigRunsUptoRow, standIns := [], harness := (true, "ea790d19f99cea639e7ce7aa0711fe3b9295540e1b9e32ecdd9c56dbe1a79d79"), looks := false }, kinds := [], alts := [], laidByText := true, laidKinds := [.data, .data, .data], laidTests := true, laidLooks := .later }
def FnExactConfigRunsUptoCardSaid : Prop := Claim7.holds Tryz.pinned (.plain (OpenSpec.upto fnExactConfigRunsSpec)) fnExactConfigRunsUptoCard

/-- THE SECOND FORM's CARD OF 'laws.FnBlamedCast'. -/
def fnBlamedCastUptoCard : Claim7 := { stood := { row := fnBlamedCastUptoRow, standIns := [], harness := (true, "ea790d19f99cea639e7ce7aa0711fe3b9295540e1b9e32ecdd9c56dbe1a79d79"), looks := false }, kinds := [], alts := [], laidByText := true, laidKinds := [.data, .data, .data], laidTests := true, laidLooks := .later }
def FnBlamedCastUptoCardSaid : Prop := Claim7.holds Tryz.pinned (.plain (OpenSpec.upto fnBlamedCastSpec)) fnBlamedCastUptoCard

/-- THE SECOND FORM's CARD OF 'laws.FnConfigRuns'. -/
def fnConfigRunsUptoCard : Claim7 := { stood := { row := fnConfigRunsUptoRow, standIns := [], harness := (true, "ea790d19f99cea639e7ce7aa0711fe3b9295540e1b9e32ecdd9c56dbe1a79d79"), looks := false }, kinds := [], alts := [], laidByText := true, laidKinds := [.data, .data, .data], laidTests := true, laidLooks := .later }
def FnConfigRunsUptoCardSaid : Prop := Claim7.holds Tryz.pinned (.plain (OpenSpec.upto fnConfigRunsSpec)) fnConfigRunsUptoCard

/-- THE SECOND FORM's CARD OF 'laws.FnExactFailingSlots'. -/
def fnExactFailingSlotsUptoCard : Claim7 := { stood := { row := fnExactFailingSlotsUptoRow, standIns := [], harness := (true, "ea790d19f99cea639e7ce7aa0711fe3b9295540e1b9e32ecdd9c56dbe1a79d79"), looks := false }, kinds := [], alts := [], laidByText := true, laidKinds := [.data, .data, .data], laidTests := true, laidLooks := .later }
def FnExactFailingSlotsUptoCardSaid : Prop := Claim7.holds Tryz.pinned (.plain (OpenSpec.upto fnExactFailingSlotsSpec)) fnExactFailingSlotsUptoCard

/-- THE SECOND FORM's CARD OF 'laws.FnConfigFirst'. -/
def fnConfigFirstUptoCard : Claim7 := { stood := { row := fnConfigFirstUptoRow, standIns := [], harness := (true, "ea790d19f99cea639e7ce7aa0711fe3b9295540e1b9e32ecdd9c56dbe1a79d79"), looks := false }, kinds := [], alts := [], laidByText := true, laidKinds := [.data, .data, .data], laidTests := true, laidLooks := .later }
def FnConfigFirstUptoCardSaid : Prop := Claim7.holds Tryz.pinned (.plain (OpenSpec.upto fnConfigFirstSpec)) fnConfigFirstUptoCard

/-- THE SECOND FORM's CARD OF 'laws.FnConfigTexts'. -/
def fnConfigTextsUptoCard : Claim7 := { stood := { row := fnConfigTextsUptoRow, standIns := [], harness := (true, "ea790d19f99cea639e7ce7aa0711fe3b9295540e1b9e32ecdd9c56dbe1a79d79"), looks := false }, kinds := [], alts := [], laidByText := true, laidKinds := [.data, .data, .data], laidTests := true, laidLooks := .later }
def FnConfigTextsUptoCardSaid : Prop := Claim7.holds Tryz.pinned (.plain (OpenSpec.upto fnConfigTextsSpec)) fnConfigTextsUptoCard

/-- THE SECOND FORM's CARD OF 'laws.FnFailingSlots'. -/
def fnFailingSlotsUptoCard : Claim7 := { stood := { row := fnFailingSlotsUptoRow, standIns := [], harness := (true, "ea790d19f99cea639e7ce7aa0711fe3b9295540e1b9e32ecdd9c56dbe1a79d79"), looks := false }, kinds := [], alts := [], laidByText := true, laidKinds := [.data, .data, .data], laidTests := true, laidLooks := .later }
def FnFailingSlotsUptoCardSaid : Prop := Claim7.holds Tryz.pinned (.plain (OpenSpec.upto fnFailingSlotsSpec)) fnFailingSlotsUptoCard

/-- THE SECOND FORM's CARD OF 'laws.FnRunTerm'. -/
def fnRunTermUptoCard : Claim7 := { stood := { row := fnRunTermUptoRow, standIns := [], harness := (true, "ea790d19f99cea639e7ce7aa0711fe3b9295540e1b9e32ecdd9c56dbe1a79d79"), looks := false }, kinds := [], alts := [], laidByText := true, laidKinds := [.data, .data, .data], laidTests := true, laidLooks := .later }
def FnRunTermUptoCardSaid : Prop := Claim7.holds Tryz.pinned (.plain (OpenSpec.upto fnRunTermSpec)) fnRunTermUptoCard
end Rows
end Go.Proofs.YtebfignffjhnhaaGreatDoor
