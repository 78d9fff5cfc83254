/-
  DERIVED. GIVEN WITH THE SEED: THE CARDS: each row of YtgodjiieijekiaaGreatDoorRows.lean that lists a variable, with what it lists TIED to the program's text (the seventh form; the later family's looks); each row that meets fmt, with fmt's text TOLD by the authors' own Lean function (tested against real Go, not proved from fmt's source: count such statements apart). THE CARD IS WHAT COUNTS. Prove the row's statement (the work); the ties are given (YtgodjiieijekiaaGreatDoorTie.lean); close each card by the builder's one call (the guide's Derived/Test/ToyasCard.lean, 'card_holds'). Laid BY PROGRAM, IN A SANDBOX (cutbox-door.mjs). By AI agents, Wed Nov 11 2026. No macro, syntax, notation, axiom, sorry.
-/
import Derived.Test.YtgodjiieijekiaaGreatDoorRows
import GoSem.ClaimSeven
namespace Go.Proofs.YtgodjiieijekiaaGreatDoor
namespace Rows

/-- THE TIED CARD OF 'laws.FnTermText'. -/
def fnTermTextCard : Claim7 := { stood := { row := fnTermTextRow, standIns := [], harness := (true, "5503c4f5e42bc96f2ef562c0cfdaafa1a0fb8897e6b932be6f94c99fbba70540"), looks := true }, kinds := [], alts := [], laidByText := true, laidKinds := [.data, .data, .data, .sentinel, .sentinel], laidTests := true, laidLooks := .later }
def FnTermTextCardSaid : Prop := Claim7.holds Tryz.pinned (.plain (OpenSpec.ofChange fnTermTextSpec)) fnTermTextCard

/-- THE TIED CARD OF 'laws.FnExactParseTerm'. -/
def fnExactParseTermCard : Claim7 := { stood := { row := fnExactParseTermRow, standIns := [], harness := (true, "5503c4f5e42bc96f2ef562c0cfdaafa1a0fb8897e6b932be6f94c99fbba70540"), looks := true }, kinds := [], alts := [], laidByText := true, laidKinds := [.data, .data, .data, .sentinel, .sentinel], laidTests := true, laidLooks := .later }
def FnExactParseTermCardSaid : Prop := Claim7.holds Tryz.pinned (.plain (OpenSpec.ofChange fnExactParseTermSpec)) fnExactParseTermCard

/-- THE TIED CARD OF 'laws.FnExactParseCast'. -/
def fnExactParseCastCard : Claim7 := { stood := { row := fnExactParseCastRow, standIns := [], harness := (true, "5503c4f5e42bc96f2ef562c0cfdaafa1a0fb8897e6b932be6f94c99fbba70540"), looks := true }, kinds := [], alts := [], laidByText := true, laidKinds := [.data, .data, .data, .sentinel, .sentinel], laidTests := true, laidLooks := .later }
def FnExactParseCastCardSaid : Prop := Claim7.holds Tryz.pinned (.plain (OpenSpec.ofChange fnExactParseCastSpec)) fnExactParseCastCard

/-- THE TIED CARD OF 'laws.FnCompilePart'. -/
def fnCompilePartCard : Claim7 := { stood := { row := fnCompilePartRow, standIns := [], harness := (true, "5503c4f5e42bc96f2ef562c0cfdaafa1a0fb8897e6b932be6f94c99fbba70540"), looks := true }, kinds := [], alts := [], laidByText := true, laidKinds := [.data, .data, .data], laidTests := true, laidLooks := .later }
def FnCompilePartCardSaid : Prop := Claim7.holds Tryz.pinned (.plain (OpenSpec.ofChange fnCompilePartSpec)) fnCompilePartCard

/-- THE TIED CARD OF 'laws.FnCompileStatic'. -/
def fnCompileStaticCard : Claim7 := { stood := { row := fnCompileStaticRow, standIns := [], harness := (true, "5503c4f5e42bc96f2ef562c0cfdaafa1a0fb8897e6b932be6f94c99fbba70540"), looks := true }, kinds := [], alts := [], laidByText := true, laidKinds := [.data, .data, .data], laidTests := true, laidLooks := .later }
def FnCompileStaticCardSaid : Prop := Claim7.holds Tryz.pinned (.plain (OpenSpec.ofChange fnCompileStaticSpec)) fnCompileStaticCard

/-- THE TIED CARD OF 'laws.FnCompileTerm'. -/
def fnCompileTermCard : Claim7 := { stood := { row := fnCompileTermRow, standIns := [], harness := (true, "5503c4f5e42bc96f2ef562c0cfdaafa1a0fb8897e6b932be6f94c99fbba70540"), looks := true }, kinds := [], alts := [], laidByText := true, laidKinds := [.data, .data, .data], laidTests := true, laidLooks := .later }
def FnCompileTermCardSaid : Prop := Claim7.holds Tryz.pinned (.plain (OpenSpec.ofChange fnCompileTermSpec)) fnCompileTermCard

/-- THE TIED CARD OF 'laws.FnCastText'. -/
def fnCastTextCard : Claim7 := { stood := { row := fnCastTextRow, standIns := [], harness := (true, "5503c4f5e42bc96f2ef562c0cfdaafa1a0fb8897e6b932be6f94c99fbba70540"), looks := true }, kinds := [], alts := [], laidByText := true, laidKinds := [.data, .data, .data, .sentinel, .sentinel], laidTests := true, laidLooks := .later }
def FnCastTextCardSaid : Prop := Claim7.holds Tryz.pinned (.plain (OpenSpec.ofChange fnCastTextSpec)) fnCastTextCard

/-- THE SECOND FORM's CARD OF 'laws.FnTermText'. -/
def fnTermTextUptoCard : Claim7 := { stood := { row := fnTermTextUptoRow, standIns := [], harness := (true, "5503c4f5e42bc96f2ef562c0cfdaafa1a0fb8897e6b932be6f94c99fbba70540"), looks := true }, kinds := [], alts := [], laidByText := true, laidKinds := [.data, .data, .data, .sentinel, .sentinel], laidTests := true, laidLooks := .later }
def FnTermTextUptoCardSaid : Prop := Claim7.holds Tryz.pinned (.plain (OpenSpec.upto fnTermTextSpec)) fnTermTextUptoCard

/-- THE SECOND FORM's CARD OF 'laws.FnExactParseTerm'. -/
def fnExactParseTermUptoCard : Claim7 := { stood := { row := fnExactParseTermUptoRow, standIns := [], harness := (true, "5503c4f5e42bc96f2ef562c0cfdaafa1a0fb8897e6b932be6f94c99fbba70540"), looks := true }, kinds := [], alts := [], laidByText := true, laidKinds := [.data, .data, .data, .sentinel, .sentinel], laidTests := true, laidLooks := .later }
def FnExactParseTermUptoCardSaid : Prop := Claim7.holds Tryz.pinned (.plain (OpenSpec.upto fnExactParseTermSpec)) fnExactParseTermUptoCard

/-- THE SECOND FORM's CARD OF 'laws.FnExactParseCast'. -/
def fnExactParseCastUptoCard : Claim7 := { stood := { row := fnExactParseCastUptoRow, standIns := [], harness := (true, "5503c4f5e42bc96f2ef562c0cfdaafa1a0fb8897e6b932be6f94c99fbba70540"), looks := true }, kinds := [], alts := [], laidByText := true, laidKinds := [.data, .data, .data, .sentinel, .sentinel], laidTests := true, laidLooks := .later }
def FnExactParseCastUptoCardSaid : Prop := Claim7.holds Tryz.pinned (.plain (OpenSpec.upto fnExactParseCastSpec)) fnExactParseCastUptoCard

/-- THE SECOND FORM's CARD OF 'laws.FnCompilePart'. -/
def fnCompilePartUptoCard : Claim7 := { stood := { row := fnCompilePartUptoRow, standIns := [], harness := (true, "5503c4f5e42bc96f2ef562c0cfdaafa1a0fb8897e6b932be6f94c99fbba70540"), looks := true }, kinds := [], alts := [], laidByText := true, laidKinds := [.data, .data, .data], laidTests := true, laidLooks := .later }
def FnCompilePartUptoCardSaid : Prop := Claim7.holds Tryz.pinned (.plain (OpenSpec.upto fnCompilePartSpec)) fnCompilePartUptoCard

/-- THE SECOND FORM's CARD OF 'laws.FnCompileStatic'. -/
def fnCompileStaticUptoCard : Claim7 := { stood := { row := fnCompileStaticUptoRow, standIns := [], harness := (true, "5503c4f5e42bc96f2ef562c0cfdaafa1a0fb8897e6b932be6f94c99fbba70540"), looks := true }, kinds := [], alts := [], laidByText := true, laidKinds := [.data, .data, .data], laidTests := true, laidLooks := .later }
def FnCompileStaticUptoCardSaid : Prop := Claim7.holds Tryz.pinned (.plain (OpenSpec.upto fnCompileStaticSpec)) fnCompileStaticUptoCard

/-- THE SECOND FORM's CARD OF 'laws.FnCompileTerm'. -/
def fnCompileTermUptoCard : Claim7 := { stood := { row := fnCompileTermUptoRow, standIns := [], harness := (true, "5503c4f5e42bc96f2ef562c0cfdaafa1a0fb8897e6b932be6f94c99fbba70540"), looks := true }, kinds := [], alts := [], laidByText := true, laidKinds := [.data, .data, .data], laidTests := true, laidLooks := .later }
def FnCompileTermUptoCardSaid : Prop := Claim7.holds Tryz.pinned (.plain (OpenSpec.upto fnCompileTermSpec)) fnCompileTermUptoCard

/-- THE SECOND FORM's CARD OF 'laws.FnCastText'. -/
def fnCastTextUptoCard : Claim7 := { stood := { row := fnCastTextUptoRow, standIns := [], harness := (true, "5503c4f5e42bc96f2ef562c0cfdaafa1a0fb8897e6b932be6f94c99fbba70540"), looks := true }, kinds := [], alts := [], laidByText := true, laidKinds := [.data, .data, .data, .sentinel, .sentinel], laidTests := true, laidLooks := .later }
def FnCastTextUptoCardSaid : Prop := Claim7.holds Tryz.pinned (.plain (OpenSpec.upto fnCastTextSpec)) fnCastTextUptoCard
end Rows
end Go.Proofs.YtgodjiieijekiaaGreatDoor
