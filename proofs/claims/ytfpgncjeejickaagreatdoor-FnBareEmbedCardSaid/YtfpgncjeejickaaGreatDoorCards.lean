/-
  DERIVED. GIVEN WITH THE SEED: THE CARDS: each row of YtfpgncjeejickaaGreatDoorRows.lean that lists a variable, with what it lists TIED to the program's text (the seventh form; the later family's looks); each row that meets fmt, with fmt's text TOLD by the authors' own Lean function (tested against real Go, not proved from fmt's source: count such statements apart). THE CARD IS WHAT COUNTS. Prove the row's statement (the work); the ties are given (YtfpgncjeejickaaGreatDoorTie.lean); close each card by the builder's one call (the guide's Derived/Test/ToyasCard.lean, 'card_holds'). Laid BY PROGRAM, IN A SANDBOX (cutbox-door.mjs). By AI agents, Wed Nov 11 2026. No macro, syntax, notation, axiom, sorry.
-/
import Derived.Test.YtfpgncjeejickaaGreatDoorRows
import GoSem.ClaimSeven
namespace Go.Proofs.YtfpgncjeejickaaGreatDoor
namespace Rows

/-- THE TIED CARD OF 'laws.FnValueStays'. -/
def fnValueStaysCard : Claim7 := { stood := { row := fnValueStaysRow, standIns := [], harness := (true, "7e615729990e354d5dad8ef9d7861d2002d8a7214a8f0f822f540f0d31631821"), looks := false }, kinds := [], alts := [], laidByText := true, laidKinds := [.data, .data, .data], laidTests := true, laidLooks := .later }
def FnValueStaysCardSaid : Prop := Claim7.holds Tryz.pinned (.plain (OpenSpec.ofChange fnValueStaysSpec)) fnValueStaysCard

/-- THE TIED CARD OF 'laws.FnBareTyped'. -/
def fnBareTypedCard : Claim7 := { stood := { row := fnBareTypedRow, standIns := [], harness := (true, "7e615729990e354d5dad8ef9d7861d2002d8a7214a8f0f822f540f0d31631821"), looks := false }, kinds := [], alts := [], laidByText := true, laidKinds := [.data, .data, .data], laidTests := true, laidLooks := .later }
def FnBareTypedCardSaid : Prop := Claim7.holds Tryz.pinned (.plain (OpenSpec.ofChange fnBareTypedSpec)) fnBareTypedCard

/-- THE TIED CARD OF 'laws.FnBareStatic'. -/
def fnBareStaticCard : Claim7 := { stood := { row := fnBareStaticRow, standIns := [], harness := (true, "7e615729990e354d5dad8ef9d7861d2002d8a7214a8f0f822f540f0d31631821"), looks := false }, kinds := [], alts := [], laidByText := true, laidKinds := [.data, .data, .data], laidTests := true, laidLooks := .later }
def FnBareStaticCardSaid : Prop := Claim7.holds Tryz.pinned (.plain (OpenSpec.ofChange fnBareStaticSpec)) fnBareStaticCard

/-- THE TIED CARD OF 'laws.FnBareEmbed'. -/
def fnBareEmbedCard : Claim7 := { stood := { row := fnBareEmbedRow, standIns := [], harness := (true, "7e615729990e354d5dad8ef9d7861d2002d8a7214a8f0f822f540f0d31631821"), looks := false }, kinds := [], alts := [], laidByText := true, laidKinds := [.data, .data, .data], laidTests := true, laidLooks := .later }
def FnBareEmbedCardSaid : Prop := Claim7.holds Tryz.pinned (.plain (OpenSpec.ofChange fnBareEmbedSpec)) fnBareEmbedCard

/-- THE TIED CARD OF 'laws.FnSimplifyRun'. -/
def fnSimplifyRunCard : Claim7 := { stood := { row := fnSimplifyRunRow, standIns := [], harness := (true, "7e615729990e354d5dad8ef9d7861d2002d8a7214a8f0f822f540f0d31631821"), looks := false }, kinds := [], alts := [], laidByText := true, laidKinds := [.data, .data, .data], laidTests := true, laidLooks := .later }
def FnSimplifyRunCardSaid : Prop := Claim7.holds Tryz.pinned (.plain (OpenSpec.ofChange fnSimplifyRunSpec)) fnSimplifyRunCard

/-- THE TIED CARD OF 'laws.FnDynamicCasts'. -/
def fnDynamicCastsCard : Claim7 := { stood := { row := fnDynamicCastsRow, standIns := [], harness := (true, "7e615729990e354d5dad8ef9d7861d2002d8a7214a8f0f822f540f0d31631821"), looks := false }, kinds := [], alts := [], laidByText := true, laidKinds := [.data, .data, .data], laidTests := true, laidLooks := .later }
def FnDynamicCastsCardSaid : Prop := Claim7.holds Tryz.pinned (.plain (OpenSpec.ofChange fnDynamicCastsSpec)) fnDynamicCastsCard

/-- THE TIED CARD OF 'laws.FnForgetCast'. -/
def fnForgetCastCard : Claim7 := { stood := { row := fnForgetCastRow, standIns := [], harness := (true, "7e615729990e354d5dad8ef9d7861d2002d8a7214a8f0f822f540f0d31631821"), looks := false }, kinds := [], alts := [], laidByText := true, laidKinds := [.data, .data, .data], laidTests := true, laidLooks := .later }
def FnForgetCastCardSaid : Prop := Claim7.holds Tryz.pinned (.plain (OpenSpec.ofChange fnForgetCastSpec)) fnForgetCastCard

/-- THE TIED CARD OF 'laws.FnRelabelCasts'. -/
def fnRelabelCastsCard : Claim7 := { stood := { row := fnRelabelCastsRow, standIns := [], harness := (true, "7e615729990e354d5dad8ef9d7861d2002d8a7214a8f0f822f540f0d31631821"), looks := false }, kinds := [], alts := [], laidByText := true, laidKinds := [.data, .data, .data], laidTests := true, laidLooks := .later }
def FnRelabelCastsCardSaid : Prop := Claim7.holds Tryz.pinned (.plain (OpenSpec.ofChange fnRelabelCastsSpec)) fnRelabelCastsCard

/-- THE SECOND FORM's CARD OF 'laws.FnValueStays'. -/
def fnValueStaysUptoCard : Claim7 := { stood := { row := fnValueStaysUptoRow, standIns := [], harness := (true, "7e615729990e354d5dad8ef9d7861d2002d8a7214a8f0f822f540f0d31631821"), looks := false }, kinds := [], alts := [], laidByText := true, laidKinds := [.data, .data, .data], laidTests := true, laidLooks := .later }
def FnValueStaysUptoCardSaid : Prop := Claim7.holds Tryz.pinned (.plain (OpenSpec.upto fnValueStaysSpec)) fnValueStaysUptoCard

/-- THE SECOND FORM's CARD OF 'laws.FnBareTyped'. -/
def fnBareTypedUptoCard : Claim7 := { stood := { row := fnBareTypedUptoRow, standIns := [], harness := (true, "7e615729990e354d5dad8ef9d7861d2002d8a7214a8f0f822f540f0d31631821"), looks := false }, kinds := [], alts := [], laidByText := true, laidKinds := [.data, .data, .data], laidTests := true, laidLooks := .later }
def FnBareTypedUptoCardSaid : Prop := Claim7.holds Tryz.pinned (.plain (OpenSpec.upto fnBareTypedSpec)) fnBareTypedUptoCard

/-- THE SECOND FORM's CARD OF 'laws.FnBareStatic'. -/
def fnBareStaticUptoCard : Claim7 := { stood := { row := fnBareStaticUptoRow, standIns := [], harness := (true, "7e615729990e354d5dad8ef9d7861d2002d8a7214a8f0f822f540f0d31631821"), looks := false }, kinds := [], alts := [], laidByText := true, laidKinds := [.data, .data, .data], laidTests := true, laidLooks := .later }
def FnBareStaticUptoCardSaid : Prop := Claim7.holds Tryz.pinned (.plain (OpenSpec.upto fnBareStaticSpec)) fnBareStaticUptoCard

/-- THE SECOND FORM's CARD OF 'laws.FnBareEmbed'. -/
def fnBareEmbedUptoCard : Claim7 := { stood := { row := fnBareEmbedUptoRow, standIns := [], harness := (true, "7e615729990e354d5dad8ef9d7861d2002d8a7214a8f0f822f540f0d31631821"), looks := false }, kinds := [], alts := [], laidByText := true, laidKinds := [.data, .data, .data], laidTests := true, laidLooks := .later }
def FnBareEmbedUptoCardSaid : Prop := Claim7.holds Tryz.pinned (.plain (OpenSpec.upto fnBareEmbedSpec)) fnBareEmbedUptoCard

/-- THE SECOND FORM's CARD OF 'laws.FnSimplifyRun'. -/
def fnSimplifyRunUptoCard : Claim7 := { stood := { row := fnSimplifyRunUptoRow, standIns := [], harness := (true, "7e615729990e354d5dad8ef9d7861d2002d8a7214a8f0f822f540f0d31631821"), looks := false }, kinds := [], alts := [], laidByText := true, laidKinds := [.data, .data, .data], laidTests := true, laidLooks := .later }
def FnSimplifyRunUptoCardSaid : Prop := Claim7.holds Tryz.pinned (.plain (OpenSpec.upto fnSimplifyRunSpec)) fnSimplifyRunUptoCard

/-- THE SECOND FORM's CARD OF 'laws.FnDynamicCasts'. -/
def fnDynamicCastsUptoCard : Claim7 := { stood := { row := fnDynamicCastsUptoRow, standIns := [], harness := (true, "7e615729990e354d5dad8ef9d7861d2002d8a7214a8f0f822f540f0d31631821"), looks := false }, kinds := [], alts := [], laidByText := true, laidKinds := [.data, .data, .data], laidTests := true, laidLooks := .later }
def FnDynamicCastsUptoCardSaid : Prop := Claim7.holds Tryz.pinned (.plain (OpenSpec.upto fnDynamicCastsSpec)) fnDynamicCastsUptoCard

/-- THE SECOND FORM's CARD OF 'laws.FnForgetCast'. -/
def fnForgetCastUptoCard : Claim7 := { stood := { row := fnForgetCastUptoRow, standIns := [], harness := (true, "7e615729990e354d5dad8ef9d7861d2002d8a7214a8f0f822f540f0d31631821"), looks := false }, kinds := [], alts := [], laidByText := true, laidKinds := [.data, .data, .data], laidTests := true, laidLooks := .later }
def FnForgetCastUptoCardSaid : Prop := Claim7.holds Tryz.pinned (.plain (OpenSpec.upto fnForgetCastSpec)) fnForgetCastUptoCard

/-- THE SECOND FORM's CARD OF 'laws.FnRelabelCasts'. -/
def fnRelabelCastsUptoCard : Claim7 := { stood := { row := fnRelabelCastsUptoRow, standIns := [], harness := (true, "7e615729990e354d5dad8ef9d7861d2002d8a7214a8f0f822f540f0d31631821"), looks := false }, kinds := [], alts := [], laidByText := true, laidKinds := [.data, .data, .data], laidTests := true, laidLooks := .later }
def FnRelabelCastsUptoCardSaid : Prop := Claim7.holds Tryz.pinned (.plain (OpenSpec.upto fnRelabelCastsSpec)) fnRelabelCastsUptoCard
end Rows
end Go.Proofs.YtfpgncjeejickaaGreatDoor
