/-
  DERIVED. GIVEN WITH THE SEED: THE CARDS: each row of YthpdjmbpbdbodaaGreatDoorRows.lean that lists a variable, with what it lists TIED to the program's text (the seventh form; the later family's looks); each row that meets fmt, with fmt's text TOLD by the authors' own Lean function (tested against real Go, not proved from fmt's source: count such statements apart). THE CARD IS WHAT COUNTS. Prove the row's statement (the work); the ties are given (YthpdjmbpbdbodaaGreatDoorTie.lean); close each card by the builder's one call (the guide's Derived/Test/ToyasCard.lean, 'card_holds'). Laid BY PROGRAM, IN A SANDBOX (cutbox-door.mjs). By AI agents, Wed Nov 11 2026. No macro, syntax, notation, axiom, sorry.
-/
import Derived.Test.YthpdjmbpbdbodaaGreatDoorRows
import GoSem.ClaimSeven
namespace Go.Proofs.YthpdjmbpbdbodaaGreatDoor
namespace Rows

/-- THE TIED CARD OF 'laws.FnEvalCast'. -/
def fnEvalCastCard : Claim7 := { stood := { row := fnEvalCastRow, standIns := [], harness := (true, "06f16181fc3ffb15f2e359643a58559e15448a1e560a22cb80513bf5b26fc52f"), looks := false }, kinds := [], alts := [], laidByText := true, laidKinds := [.data, .data, .data], laidTests := true, laidLooks := .later }
def FnEvalCastCardSaid : Prop := Claim7.holds Tryz.pinned (.plain (OpenSpec.ofChange fnEvalCastSpec)) fnEvalCastCard

/-- THE TIED CARD OF 'laws.FnRunStatic'. -/
def fnRunStaticCard : Claim7 := { stood := { row := fnRunStaticRow, standIns := [], harness := (true, "06f16181fc3ffb15f2e359643a58559e15448a1e560a22cb80513bf5b26fc52f"), looks := false }, kinds := [], alts := [], laidByText := true, laidKinds := [.data, .data, .data], laidTests := true, laidLooks := .later }
def FnRunStaticCardSaid : Prop := Claim7.holds Tryz.pinned (.plain (OpenSpec.ofChange fnRunStaticSpec)) fnRunStaticCard

/-- THE TIED CARD OF 'laws.FnGuaranteeChain'. -/
def fnGuaranteeChainCard : Claim7 := { stood := { row := fnGuaranteeChainRow, standIns := [], harness := (true, "06f16181fc3ffb15f2e359643a58559e15448a1e560a22cb80513bf5b26fc52f"), looks := false }, kinds := [], alts := [], laidByText := true, laidKinds := [.data, .data, .data], laidTests := true, laidLooks := .later }
def FnGuaranteeChainCardSaid : Prop := Claim7.holds Tryz.pinned (.plain (OpenSpec.ofChange fnGuaranteeChainSpec)) fnGuaranteeChainCard

/-- THE TIED CARD OF 'laws.FnCompareRuns'. -/
def fnCompareRunsCard : Claim7 := { stood := { row := fnCompareRunsRow, standIns := [], harness := (true, "06f16181fc3ffb15f2e359643a58559e15448a1e560a22cb80513bf5b26fc52f"), looks := false }, kinds := [], alts := [], laidByText := true, laidKinds := [.data, .data, .data], laidTests := true, laidLooks := .later }
def FnCompareRunsCardSaid : Prop := Claim7.holds Tryz.pinned (.plain (OpenSpec.ofChange fnCompareRunsSpec)) fnCompareRunsCard

/-- THE TIED CARD OF 'laws.FnGuaranteeBlame'. -/
def fnGuaranteeBlameCard : Claim7 := { stood := { row := fnGuaranteeBlameRow, standIns := [], harness := (true, "06f16181fc3ffb15f2e359643a58559e15448a1e560a22cb80513bf5b26fc52f"), looks := false }, kinds := [], alts := [], laidByText := true, laidKinds := [.data, .data, .data], laidTests := true, laidLooks := .later }
def FnGuaranteeBlameCardSaid : Prop := Claim7.holds Tryz.pinned (.plain (OpenSpec.ofChange fnGuaranteeBlameSpec)) fnGuaranteeBlameCard

/-- THE SECOND FORM's CARD OF 'laws.FnEvalCast'. -/
def fnEvalCastUptoCard : Claim7 := { stood := { row := fnEvalCastUptoRow, standIns := [], harness := (true, "06f16181fc3ffb15f2e359643a58559e15448a1e560a22cb80513bf5b26fc52f"), looks := false }, kinds := [], alts := [], laidByText := true, laidKinds := [.data, .data, .data], laidTests := true, laidLooks := .later }
def FnEvalCastUptoCardSaid : Prop := Claim7.holds Tryz.pinned (.plain (OpenSpec.upto fnEvalCastSpec)) fnEvalCastUptoCard

/-- THE SECOND FORM's CARD OF 'laws.FnRunStatic'. -/
def fnRunStaticUptoCard : Claim7 := { stood := { row := fnRunStaticUptoRow, standIns := [], harness := (true, "06f16181fc3ffb15f2e359643a58559e15448a1e560a22cb80513bf5b26fc52f"), looks := false }, kinds := [], alts := [], laidByText := true, laidKinds := [.data, .data, .data], laidTests := true, laidLooks := .later }
def FnRunStaticUptoCardSaid : Prop := Claim7.holds Tryz.pinned (.plain (OpenSpec.upto fnRunStaticSpec)) fnRunStaticUptoCard

/-- THE SECOND FORM's CARD OF 'laws.FnGuaranteeChain'. -/
def fnGuaranteeChainUptoCard : Claim7 := { stood := { row := fnGuaranteeChainUptoRow, standIns := [], harness := (true, "06f16181fc3ffb15f2e359643a58559e15448a1e560a22cb80513bf5b26fc52f"), looks := false }, kinds := [], alts := [], laidByText := true, laidKinds := [.data, .data, .data], laidTests := true, laidLooks := .later }
def FnGuaranteeChainUptoCardSaid : Prop := Claim7.holds Tryz.pinned (.plain (OpenSpec.upto fnGuaranteeChainSpec)) fnGuaranteeChainUptoCard

/-- THE SECOND FORM's CARD OF 'laws.FnCompareRuns'. -/
def fnCompareRunsUptoCard : Claim7 := { stood := { row := fnCompareRunsUptoRow, standIns := [], harness := (true, "06f16181fc3ffb15f2e359643a58559e15448a1e560a22cb80513bf5b26fc52f"), looks := false }, kinds := [], alts := [], laidByText := true, laidKinds := [.data, .data, .data], laidTests := true, laidLooks := .later }
def FnCompareRunsUptoCardSaid : Prop := Claim7.holds Tryz.pinned (.plain (OpenSpec.upto fnCompareRunsSpec)) fnCompareRunsUptoCard

/-- THE SECOND FORM's CARD OF 'laws.FnGuaranteeBlame'. -/
def fnGuaranteeBlameUptoCard : Claim7 := { stood := { row := fnGuaranteeBlameUptoRow, standIns := [], harness := (true, "06f16181fc3ffb15f2e359643a58559e15448a1e560a22cb80513bf5b26fc52f"), looks := false }, kinds := [], alts := [], laidByText := true, laidKinds := [.data, .data, .data], laidTests := true, laidLooks := .later }
def FnGuaranteeBlameUptoCardSaid : Prop := Claim7.holds Tryz.pinned (.plain (OpenSpec.upto fnGuaranteeBlameSpec)) fnGuaranteeBlameUptoCard
end Rows
end Go.Proofs.YthpdjmbpbdbodaaGreatDoor
