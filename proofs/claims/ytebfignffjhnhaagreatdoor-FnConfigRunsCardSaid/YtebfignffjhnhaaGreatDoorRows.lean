/-
  NARROWER THAN 'FOR EVERY INPUT', by the rows' own cells (each row's printed sentence says how): FnExactConfigRuns: loops, laid · FnBlamedCast: laid · FnConfigRuns: laid · FnExactFailingSlots: loops, laid · FnConfigFirst: laid · FnConfigTexts: laid · FnFailingSlots: laid · FnRunTerm: laid.
  DERIVED. THE GIVEN ROWS OF THIS SEAT. 8 by the template 'for every input the law returns true; each argument reads behind the call as it read before'; 0 by the template 'total and deterministic' (their statements: YtebfignffjhnhaaGreatDoorTotals.lean).
  GIVEN WITH THE SEED: the statements are not yours to turn. If you find one false, say at which input.
  Laid BY PROGRAM, IN A SANDBOX (cutbox-rows.mjs): the forced cells as the released guide's own fill.sh prints them over the translation f786e960c71ce82e… (all of the seat's roots in one cut). By AI agents, Wed Nov 11 2026. No macro, syntax, notation, axiom, sorry.
-/
import Derived.Test.YtebfignffjhnhaaGreatDoorChecked
import GoSem.Claim
import GoSem.ClaimJoined
import GoSem.ClaimMapViews
import Derived.JoinedTies
import Derived.KernelRfl
namespace Go.Proofs.YtebfignffjhnhaaGreatDoor
/- THE CELL 'sum', in the pinned program and in every row, IS THE sha256 OF THE DUMP (.gsa) THAT YtebfignffjhnhaaGreatDoorProg.lean LOADS. Nothing in Lean hashes anything: it is a label: what it is worth is what the hold of that sum in a sandbox is worth. -/
noncomputable def Tryz.pinned : Pinned := { name := "ytebfignffjhnhaagreatdoor", sum := "f786e960c71ce82e22e4baf9b524bf37d41a82abd01ba6e404ebd6e2f8895305", checked := Tryz.checked }
namespace Rows
def none {H : Type} : Left H := { results := [], args := [] }

/- WHAT THE LISTED PACKAGE-LEVEL VARIABLES READ AS WHEN THE CALL BEGINS. Each datum BY PROGRAM (the guide's laid-datum.mjs) off the statement by which the dump's own 'gosem.cut.vars' lays the variable. In a bare row this is a premise. The card (YtebfignffjhnhaaGreatDoorCards.lean) ties it to the program's text. -/
def laid_math_bits_deBruijn32tab {H : Type} : DataW H := .agg [.lit (.int .u8 0), .lit (.int .u8 1), .lit (.int .u8 28), .lit (.int .u8 2), .lit (.int .u8 29), .lit (.int .u8 14), .lit (.int .u8 24), .lit (.int .u8 3), .lit (.int .u8 30), .lit (.int .u8 22), .lit (.int .u8 20), .lit (.int .u8 15), .lit (.int .u8 25), .lit (.int .u8 17), .lit (.int .u8 4), .lit (.int .u8 8), .lit (.int .u8 31), .lit (.int .u8 27), .lit (.int .u8 13), .lit (.int .u8 23), .lit (.int .u8 21), .lit (.int .u8 19), .lit (.int .u8 16), .lit (.int .u8 7), .lit (.int .u8 26), .lit (.int .u8 12), .lit (.int .u8 18), .lit (.int .u8 6), .lit (.int .u8 11), .lit (.int .u8 5), .lit (.int .u8 10), .lit (.int .u8 9)]
def laid_math_bits_deBruijn64tab {H : Type} : DataW H := .agg [.lit (.int .u8 0), .lit (.int .u8 1), .lit (.int .u8 56), .lit (.int .u8 2), .lit (.int .u8 57), .lit (.int .u8 49), .lit (.int .u8 28), .lit (.int .u8 3), .lit (.int .u8 61), .lit (.int .u8 58), .lit (.int .u8 42), .lit (.int .u8 50), .lit (.int .u8 38), .lit (.int .u8 29), .lit (.int .u8 17), .lit (.int .u8 4), .lit (.int .u8 62), .lit (.int .u8 47), .lit (.int .u8 59), .lit (.int .u8 36), .lit (.int .u8 45), .lit (.int .u8 43), .lit (.int .u8 51), .lit (.int .u8 22), .lit (.int .u8 53), .lit (.int .u8 39), .lit (.int .u8 33), .lit (.int .u8 30), .lit (.int .u8 24), .lit (.int .u8 18), .lit (.int .u8 12), .lit (.int .u8 5), .lit (.int .u8 63), .lit (.int .u8 55), .lit (.int .u8 48), .lit (.int .u8 27), .lit (.int .u8 60), .lit (.int .u8 41), .lit (.int .u8 37), .lit (.int .u8 16), .lit (.int .u8 46), .lit (.int .u8 35), .lit (.int .u8 44), .lit (.int .u8 21), .lit (.int .u8 52), .lit (.int .u8 32), .lit (.int .u8 23), .lit (.int .u8 11), .lit (.int .u8 54), .lit (.int .u8 26), .lit (.int .u8 40), .lit (.int .u8 15), .lit (.int .u8 34), .lit (.int .u8 20), .lit (.int .u8 31), .lit (.int .u8 10), .lit (.int .u8 25), .lit (.int .u8 14), .lit (.int .u8 19), .lit (.int .u8 9), .lit (.int .u8 13), .lit (.int .u8 8), .lit (.int .u8 7), .lit (.int .u8 6)]
def laid_internal_strconv_uint64pow10 {H : Type} : DataW H := .agg [.lit (.int .u64 1), .lit (.int .u64 10), .lit (.int .u64 100), .lit (.int .u64 1000), .lit (.int .u64 10000), .lit (.int .u64 100000), .lit (.int .u64 1000000), .lit (.int .u64 10000000), .lit (.int .u64 100000000), .lit (.int .u64 1000000000), .lit (.int .u64 10000000000), .lit (.int .u64 100000000000), .lit (.int .u64 1000000000000), .lit (.int .u64 10000000000000), .lit (.int .u64 100000000000000), .lit (.int .u64 1000000000000000), .lit (.int .u64 10000000000000000), .lit (.int .u64 100000000000000000), .lit (.int .u64 1000000000000000000), .lit (.int .u64 10000000000000000000)]

/-- 'laws.FnExactConfigRuns': WHATEVER THE INPUT: true; the input reads as it did. -/
def fnExactConfigRunsSpec : ChangeSpec := { name := "fnExactConfigRuns", fn := fun _ => fun
  | [d1, d2] => { results := [.lit (.bool true)], args := [d1, d2] }
  | _ => none }
def fnExactConfigRunsRow : OpenClaim := { program := "ytebfignffjhnhaagreatdoor", sum := "f786e960c71ce82e22e4baf9b524bf37d41a82abd01ba6e404ebd6e2f8895305", func := "loop.example/gradual/laws.FnExactConfigRuns", spec := "fnExactConfigRuns", unfollowed := true, recurses := true, named := ["internal/strconv.uint64pow10", "math/bits.deBruijn32tab", "math/bits.deBruijn64tab"], loops := true, apart := false, laid := [("math/bits.deBruijn32tab", laid_math_bits_deBruijn32tab), ("math/bits.deBruijn64tab", laid_math_bits_deBruijn64tab), ("internal/strconv.uint64pow10", laid_internal_strconv_uint64pow10)] }
def FnExactConfigRunsSaid : Prop := fnExactConfigRunsRow.holds Tryz.pinned (OpenSpec.ofChange fnExactConfigRunsSpec)

/-- ITS FALSE NEIGHBOUR: 'it returns false'. Refute it at one input. -/
def fnExactConfigRunsWrong : ChangeSpec := { name := "fnExactConfigRuns", fn := fun _ => fun
  | [d1, d2] => { results := [.lit (.bool false)], args := [d1, d2] }
  | _ => none }
def FnExactConfigRunsWrongFalsely : Prop := fnExactConfigRunsRow.holds Tryz.pinned (OpenSpec.ofChange fnExactConfigRunsWrong)

/-- 'laws.FnBlamedCast': WHATEVER THE INPUT: true; the input reads as it did. -/
def fnBlamedCastSpec : ChangeSpec := { name := "fnBlamedCast", fn := fun _ => fun
  | [d] => { results := [.lit (.bool true)], args := [d] }
  | _ => none }
def fnBlamedCastRow : OpenClaim := { program := "ytebfignffjhnhaagreatdoor", sum := "f786e960c71ce82e22e4baf9b524bf37d41a82abd01ba6e404ebd6e2f8895305", func := "loop.example/gradual/laws.FnBlamedCast", spec := "fnBlamedCast", unfollowed := true, recurses := true, named := ["internal/strconv.uint64pow10", "math/bits.deBruijn32tab", "math/bits.deBruijn64tab"], apart := false, laid := [("math/bits.deBruijn32tab", laid_math_bits_deBruijn32tab), ("math/bits.deBruijn64tab", laid_math_bits_deBruijn64tab), ("internal/strconv.uint64pow10", laid_internal_strconv_uint64pow10)] }
def FnBlamedCastSaid : Prop := fnBlamedCastRow.holds Tryz.pinned (OpenSpec.ofChange fnBlamedCastSpec)

/-- ITS FALSE NEIGHBOUR: 'it returns false'. Refute it at one input. -/
def fnBlamedCastWrong : ChangeSpec := { name := "fnBlamedCast", fn := fun _ => fun
  | [d] => { results := [.lit (.bool false)], args := [d] }
  | _ => none }
def FnBlamedCastWrongFalsely : Prop := fnBlamedCastRow.holds Tryz.pinned (OpenSpec.ofChange fnBlamedCastWrong)

/-- 'laws.FnConfigRuns': WHATEVER THE INPUT: true; the input reads as it did. -/
def fnConfigRunsSpec : ChangeSpec := { name := "fnConfigRuns", fn := fun _ => fun
  | [d] => { results := [.lit (.bool true)], args := [d] }
  | _ => none }
def fnConfigRunsRow : OpenClaim := { program := "ytebfignffjhnhaagreatdoor", sum := "f786e960c71ce82e22e4baf9b524bf37d41a82abd01ba6e404ebd6e2f8895305", func := "loop.example/gradual/laws.FnConfigRuns", spec := "fnConfigRuns", unfollowed := true, recurses := true, named := ["internal/strconv.uint64pow10", "math/bits.deBruijn32tab", "math/bits.deBruijn64tab"], apart := false, laid := [("math/bits.deBruijn32tab", laid_math_bits_deBruijn32tab), ("math/bits.deBruijn64tab", laid_math_bits_deBruijn64tab), ("internal/strconv.uint64pow10", laid_internal_strconv_uint64pow10)] }
def FnConfigRunsSaid : Prop := fnConfigRunsRow.holds Tryz.pinned (OpenSpec.ofChange fnConfigRunsSpec)

/-- ITS FALSE NEIGHBOUR: 'it returns false'. Refute it at one input. -/
def fnConfigRunsWrong : ChangeSpec := { name := "fnConfigRuns", fn := fun _ => fun
  | [d] => { results := [.lit (.bool false)], args := [d] }
  | _ => none }
def FnConfigRunsWrongFalsely : Prop := fnConfigRunsRow.holds Tryz.pinned (OpenSpec.ofChange fnConfigRunsWrong)

/-- 'laws.FnExactFailingSlots': WHATEVER THE INPUT: true; the input reads as it did. -/
def fnExactFailingSlotsSpec : ChangeSpec := { name := "fnExactFailingSlots", fn := fun _ => fun
  | [d1, d2] => { results := [.lit (.bool true)], args := [d1, d2] }
  | _ => none }
def fnExactFailingSlotsRow : OpenClaim := { program := "ytebfignffjhnhaagreatdoor", sum := "f786e960c71ce82e22e4baf9b524bf37d41a82abd01ba6e404ebd6e2f8895305", func := "loop.example/gradual/laws.FnExactFailingSlots", spec := "fnExactFailingSlots", unfollowed := true, recurses := true, named := ["internal/strconv.uint64pow10", "math/bits.deBruijn32tab", "math/bits.deBruijn64tab"], loops := true, apart := false, laid := [("math/bits.deBruijn32tab", laid_math_bits_deBruijn32tab), ("math/bits.deBruijn64tab", laid_math_bits_deBruijn64tab), ("internal/strconv.uint64pow10", laid_internal_strconv_uint64pow10)] }
def FnExactFailingSlotsSaid : Prop := fnExactFailingSlotsRow.holds Tryz.pinned (OpenSpec.ofChange fnExactFailingSlotsSpec)

/-- ITS FALSE NEIGHBOUR: 'it returns false'. Refute it at one input. -/
def fnExactFailingSlotsWrong : ChangeSpec := { name := "fnExactFailingSlots", fn := fun _ => fun
  | [d1, d2] => { results := [.lit (.bool false)], args := [d1, d2] }
  | _ => none }
def FnExactFailingSlotsWrongFalsely : Prop := fnExactFailingSlotsRow.holds Tryz.pinned (OpenSpec.ofChange fnExactFailingSlotsWrong)

/-- 'laws.FnConfigFirst': WHATEVER THE INPUT: true; the input reads as it did. -/
def fnConfigFirstSpec : ChangeSpec := { name := "fnConfigFirst", fn := fun _ => fun
  | [d] => { results := [.lit (.bool true)], args := [d] }
  | _ => none }
def fnConfigFirstRow : OpenClaim := { program := "ytebfignffjhnhaagreatdoor", sum := "f786e960c71ce82e22e4baf9b524bf37d41a82abd01ba6e404ebd6e2f8895305", func := "loop.example/gradual/laws.FnConfigFirst", spec := "fnConfigFirst", unfollowed := true, recurses := true, named := ["internal/strconv.uint64pow10", "math/bits.deBruijn32tab", "math/bits.deBruijn64tab"], apart := false, laid := [("math/bits.deBruijn32tab", laid_math_bits_deBruijn32tab), ("math/bits.deBruijn64tab", laid_math_bits_deBruijn64tab), ("internal/strconv.uint64pow10", laid_internal_strconv_uint64pow10)] }
def FnConfigFirstSaid : Prop := fnConfigFirstRow.holds Tryz.pinned (OpenSpec.ofChange fnConfigFirstSpec)

/-- ITS FALSE NEIGHBOUR: 'it returns false'. Refute it at one input. -/
def fnConfigFirstWrong : ChangeSpec := { name := "fnConfigFirst", fn := fun _ => fun
  | [d] => { results := [.lit (.bool false)], args := [d] }
  | _ => none }
def FnConfigFirstWrongFalsely : Prop := fnConfigFirstRow.holds Tryz.pinned (OpenSpec.ofChange fnConfigFirstWrong)

/-- 'laws.FnConfigTexts': WHATEVER THE INPUT: true; the input reads as it did. -/
def fnConfigTextsSpec : ChangeSpec := { name := "fnConfigTexts", fn := fun _ => fun
  | [d] => { results := [.lit (.bool true)], args := [d] }
  | _ => none }
def fnConfigTextsRow : OpenClaim := { program := "ytebfignffjhnhaagreatdoor", sum := "f786e960c71ce82e22e4baf9b524bf37d41a82abd01ba6e404ebd6e2f8895305", func := "loop.example/gradual/laws.FnConfigTexts", spec := "fnConfigTexts", unfollowed := true, recurses := true, named := ["internal/strconv.uint64pow10", "math/bits.deBruijn32tab", "math/bits.deBruijn64tab"], apart := false, laid := [("math/bits.deBruijn32tab", laid_math_bits_deBruijn32tab), ("math/bits.deBruijn64tab", laid_math_bits_deBruijn64tab), ("internal/strconv.uint64pow10", laid_internal_strconv_uint64pow10)] }
def FnConfigTextsSaid : Prop := fnConfigTextsRow.holds Tryz.pinned (OpenSpec.ofChange fnConfigTextsSpec)

/-- ITS FALSE NEIGHBOUR: 'it returns false'. Refute it at one input. -/
def fnConfigTextsWrong : ChangeSpec := { name := "fnConfigTexts", fn := fun _ => fun
  | [d] => { results := [.lit (.bool false)], args := [d] }
  | _ => none }
def FnConfigTextsWrongFalsely : Prop := fnConfigTextsRow.holds Tryz.pinned (OpenSpec.ofChange fnConfigTextsWrong)

/-- 'laws.FnFailingSlots': WHATEVER THE INPUT: true; the input reads as it did. -/
def fnFailingSlotsSpec : ChangeSpec := { name := "fnFailingSlots", fn := fun _ => fun
  | [d] => { results := [.lit (.bool true)], args := [d] }
  | _ => none }
def fnFailingSlotsRow : OpenClaim := { program := "ytebfignffjhnhaagreatdoor", sum := "f786e960c71ce82e22e4baf9b524bf37d41a82abd01ba6e404ebd6e2f8895305", func := "loop.example/gradual/laws.FnFailingSlots", spec := "fnFailingSlots", unfollowed := true, recurses := true, named := ["internal/strconv.uint64pow10", "math/bits.deBruijn32tab", "math/bits.deBruijn64tab"], apart := false, laid := [("math/bits.deBruijn32tab", laid_math_bits_deBruijn32tab), ("math/bits.deBruijn64tab", laid_math_bits_deBruijn64tab), ("internal/strconv.uint64pow10", laid_internal_strconv_uint64pow10)] }
def FnFailingSlotsSaid : Prop := fnFailingSlotsRow.holds Tryz.pinned (OpenSpec.ofChange fnFailingSlotsSpec)

/-- ITS FALSE NEIGHBOUR: 'it returns false'. Refute it at one input. -/
def fnFailingSlotsWrong : ChangeSpec := { name := "fnFailingSlots", fn := fun _ => fun
  | [d] => { results := [.lit (.bool false)], args := [d] }
  | _ => none }
def FnFailingSlotsWrongFalsely : Prop := fnFailingSlotsRow.holds Tryz.pinned (OpenSpec.ofChange fnFailingSlotsWrong)

/-- 'laws.FnRunTerm': WHATEVER THE INPUT: true; the input reads as it did. -/
def fnRunTermSpec : ChangeSpec := { name := "fnRunTerm", fn := fun _ => fun
  | [d] => { results := [.lit (.bool true)], args := [d] }
  | _ => none }
def fnRunTermRow : OpenClaim := { program := "ytebfignffjhnhaagreatdoor", sum := "f786e960c71ce82e22e4baf9b524bf37d41a82abd01ba6e404ebd6e2f8895305", func := "loop.example/gradual/laws.FnRunTerm", spec := "fnRunTerm", unfollowed := true, recurses := true, named := ["internal/strconv.uint64pow10", "math/bits.deBruijn32tab", "math/bits.deBruijn64tab"], apart := false, laid := [("math/bits.deBruijn32tab", laid_math_bits_deBruijn32tab), ("math/bits.deBruijn64tab", laid_math_bits_deBruijn64tab), ("internal/strconv.uint64pow10", laid_internal_strconv_uint64pow10)] }
def FnRunTermSaid : Prop := fnRunTermRow.holds Tryz.pinned (OpenSpec.ofChange fnRunTermSpec)

/-- ITS FALSE NEIGHBOUR: 'it returns false'. Refute it at one input. -/
def fnRunTermWrong : ChangeSpec := { name := "fnRunTerm", fn := fun _ => fun
  | [d] => { results := [.lit (.bool false)], args := [d] }
  | _ => none }
def FnRunTermWrongFalsely : Prop := fnRunTermRow.holds Tryz.pinned (OpenSpec.ofChange fnRunTermWrong)

/- THE SECOND FORM. 'bulk': how many values and letters a reading holds, each counted each time it is reached (what is shared counts as often as it is met; a slice's spare places count too). A statement '..UptoSaid' is the law's where the arguments, and the package variables that the reading takes, are together of bulk at most 1048576: NARROWER than '..Said'. Prove '..Said' where nothing that the law and all that it calls make is longer than what came in: it says more and counts as full. Else prove '..UptoSaid'. A law counts once. -/
mutual
def uptoBulk {H : Type} : DataW H → Nat
  | .lit (.string bytes) => bytes.length + 1
  | .lit _ => 1
  | .nil => 1
  | .ptr d => uptoBulk d + 1
  | .slice elems spare => uptoBulkAll elems + uptoBulkAll spare + 1
  | .agg parts => uptoBulkAll parts + 1
  | .iface _ d => uptoBulk d + 1
  | .map entries => uptoBulkEntries entries + 1
  | .held _ => 1
def uptoBulkAll {H : Type} : List (DataW H) → Nat
  | [] => 0
  | d :: r => uptoBulk d + uptoBulkAll r
def uptoBulkEntries {H : Type} : List (Lit × DataW H) → Nat
  | [] => 0
  | x :: r => uptoBulkEntry x + uptoBulkEntries r
def uptoBulkEntry {H : Type} : Lit × DataW H → Nat
  | (.string bytes, d) => bytes.length + uptoBulk d + 1
  | (_, d) => uptoBulk d + 1
 end
def uptoSmall : (H : Type) → List (DataW H) → Bool := fun _ ds => decide (uptoBulkAll ds ≤ 1048576)
def OpenSpec.upto (s : _root_.Go.ChangeSpec) : _root_.Go.OpenSpec := { _root_.Go.OpenSpec.ofChange s with cond := some uptoSmall }

/-- 'laws.FnExactConfigRuns', WHERE WHAT IT READS IS OF BULK AT MOST 1048576: true; the input reads as it did. -/
def fnExactConfigRunsUptoRow : OpenClaim := { program := "ytebfignffjhnhaagreatdoor", sum := "f786e960c71ce82e22e4baf9b524bf37d41a82abd01ba6e404ebd6e2f8895305", func := "loop.example/gradual/laws.FnExactConfigRuns", spec := "fnExactConfigRuns", unfollowed := true, recurses := true, named := ["internal/strconv.uint64pow10", "math/bits.deBruijn32tab", "math/bits.deBruijn64tab"], loops := true, apart := false, laid := [("math/bits.deBruijn32tab", laid_math_bits_deBruijn32tab), ("math/bits.deBruijn64tab", laid_math_bits_deBruijn64tab), ("internal/strconv.uint64pow10", laid_internal_strconv_uint64pow10)], narrowed := true }
def FnExactConfigRunsUptoSaid : Prop := fnExactConfigRunsUptoRow.holds Tryz.pinned (OpenSpec.upto fnExactConfigRunsSpec)

/-- 'laws.FnBlamedCast', WHERE WHAT IT READS IS OF BULK AT MOST 1048576: true; the input reads as it did. -/
def fnBlamedCastUptoRow : OpenClaim := { program := "ytebfignffjhnhaagreatdoor", sum := "f786e960c71ce82e22e4baf9b524bf37d41a82abd01ba6e404ebd6e2f8895305", func := "loop.example/gradual/laws.FnBlamedCast", spec := "fnBlamedCast", unfollowed := true, recurses := true, named := ["internal/strconv.uint64pow10", "math/bits.deBruijn32tab", "math/bits.deBruijn64tab"], apart := false, laid := [("math/bits.deBruijn32tab", laid_math_bits_deBruijn32tab), ("math/bits.deBruijn64tab", laid_math_bits_deBruijn64tab), ("internal/strconv.uint64pow10", laid_internal_strconv_uint64pow10)], narrowed := true }
def FnBlamedCastUptoSaid : Prop := fnBlamedCastUptoRow.holds Tryz.pinned (OpenSpec.upto fnBlamedCastSpec)

/-- 'laws.FnConfigRuns', WHERE WHAT IT READS IS OF BULK AT MOST 1048576: true; the input reads as it did. -/
def fnConfigRunsUptoRow : OpenClaim := { program := "ytebfignffjhnhaagreatdoor", sum := "f786e960c71ce82e22e4baf9b524bf37d41a82abd01ba6e404ebd6e2f8895305", func := "loop.example/gradual/laws.FnConfigRuns", spec := "fnConfigRuns", unfollowed := true, recurses := true, named := ["internal/strconv.uint64pow10", "math/bits.deBruijn32tab", "math/bits.deBruijn64tab"], apart := false, laid := [("math/bits.deBruijn32tab", laid_math_bits_deBruijn32tab), ("math/bits.deBruijn64tab", laid_math_bits_deBruijn64tab), ("internal/strconv.uint64pow10", laid_internal_strconv_uint64pow10)], narrowed := true }
def FnConfigRunsUptoSaid : Prop := fnConfigRunsUptoRow.holds Tryz.pinned (OpenSpec.upto fnConfigRunsSpec)

/-- 'laws.FnExactFailingSlots', WHERE WHAT IT READS IS OF BULK AT MOST 1048576: true; the input reads as it did. -/
def fnExactFailingSlotsUptoRow : OpenClaim := { program := "ytebfignffjhnhaagreatdoor", sum := "f786e960c71ce82e22e4baf9b524bf37d41a82abd01ba6e404ebd6e2f8895305", func := "loop.example/gradual/laws.FnExactFailingSlots", spec := "fnExactFailingSlots", unfollowed := true, recurses := true, named := ["internal/strconv.uint64pow10", "math/bits.deBruijn32tab", "math/bits.deBruijn64tab"], loops := true, apart := false, laid := [("math/bits.deBruijn32tab", laid_math_bits_deBruijn32tab), ("math/bits.deBruijn64tab", laid_math_bits_deBruijn64tab), ("internal/strconv.uint64pow10", laid_internal_strconv_uint64pow10)], narrowed := true }
def FnExactFailingSlotsUptoSaid : Prop := fnExactFailingSlotsUptoRow.holds Tryz.pinned (OpenSpec.upto fnExactFailingSlotsSpec)

/-- 'laws.FnConfigFirst', WHERE WHAT IT READS IS OF BULK AT MOST 1048576: true; the input reads as it did. -/
def fnConfigFirstUptoRow : OpenClaim := { program := "ytebfignffjhnhaagreatdoor", sum := "f786e960c71ce82e22e4baf9b524bf37d41a82abd01ba6e404ebd6e2f8895305", func := "loop.example/gradual/laws.FnConfigFirst", spec := "fnConfigFirst", unfollowed := true, recurses := true, named := ["internal/strconv.uint64pow10", "math/bits.deBruijn32tab", "math/bits.deBruijn64tab"], apart := false, laid := [("math/bits.deBruijn32tab", laid_math_bits_deBruijn32tab), ("math/bits.deBruijn64tab", laid_math_bits_deBruijn64tab), ("internal/strconv.uint64pow10", laid_internal_strconv_uint64pow10)], narrowed := true }
def FnConfigFirstUptoSaid : Prop := fnConfigFirstUptoRow.holds Tryz.pinned (OpenSpec.upto fnConfigFirstSpec)

/-- 'laws.FnConfigTexts', WHERE WHAT IT READS IS OF BULK AT MOST 1048576: true; the input reads as it did. -/
def fnConfigTextsUptoRow : OpenClaim := { program := "ytebfignffjhnhaagreatdoor", sum := "f786e960c71ce82e22e4baf9b524bf37d41a82abd01ba6e404ebd6e2f8895305", func := "loop.example/gradual/laws.FnConfigTexts", spec := "fnConfigTexts", unfollowed := true, recurses := true, named := ["internal/strconv.uint64pow10", "math/bits.deBruijn32tab", "math/bits.deBruijn64tab"], apart := false, laid := [("math/bits.deBruijn32tab", laid_math_bits_deBruijn32tab), ("math/bits.deBruijn64tab", laid_math_bits_deBruijn64tab), ("internal/strconv.uint64pow10", laid_internal_strconv_uint64pow10)], narrowed := true }
def FnConfigTextsUptoSaid : Prop := fnConfigTextsUptoRow.holds Tryz.pinned (OpenSpec.upto fnConfigTextsSpec)

/-- 'laws.FnFailingSlots', WHERE WHAT IT READS IS OF BULK AT MOST 1048576: true; the input reads as it did. -/
def fnFailingSlotsUptoRow : OpenClaim := { program := "ytebfignffjhnhaagreatdoor", sum := "f786e960c71ce82e22e4baf9b524bf37d41a82abd01ba6e404ebd6e2f8895305", func := "loop.example/gradual/laws.FnFailingSlots", spec := "fnFailingSlots", unfollowed := true, recurses := true, named := ["internal/strconv.uint64pow10", "math/bits.deBruijn32tab", "math/bits.deBruijn64tab"], apart := false, laid := [("math/bits.deBruijn32tab", laid_math_bits_deBruijn32tab), ("math/bits.deBruijn64tab", laid_math_bits_deBruijn64tab), ("internal/strconv.uint64pow10", laid_internal_strconv_uint64pow10)], narrowed := true }
def FnFailingSlotsUptoSaid : Prop := fnFailingSlotsUptoRow.holds Tryz.pinned (OpenSpec.upto fnFailingSlotsSpec)

/-- 'laws.FnRunTerm', WHERE WHAT IT READS IS OF BULK AT MOST 1048576: true; the input reads as it did. -/
def fnRunTermUptoRow : OpenClaim := { program := "ytebfignffjhnhaagreatdoor", sum := "f786e960c71ce82e22e4baf9b524bf37d41a82abd01ba6e404ebd6e2f8895305", func := "loop.example/gradual/laws.FnRunTerm", spec := "fnRunTerm", unfollowed := true, recurses := true, named := ["internal/strconv.uint64pow10", "math/bits.deBruijn32tab", "math/bits.deBruijn64tab"], apart := false, laid := [("math/bits.deBruijn32tab", laid_math_bits_deBruijn32tab), ("math/bits.deBruijn64tab", laid_math_bits_deBruijn64tab), ("internal/strconv.uint64pow10", laid_internal_strconv_uint64pow10)], narrowed := true }
def FnRunTermUptoSaid : Prop := fnRunTermUptoRow.holds Tryz.pinned (OpenSpec.upto fnRunTermSpec)

end Rows
end Go.Proofs.YtebfignffjhnhaaGreatDoor
