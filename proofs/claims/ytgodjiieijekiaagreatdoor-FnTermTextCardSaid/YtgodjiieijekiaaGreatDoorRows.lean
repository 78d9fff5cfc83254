/-
  NARROWER THAN 'FOR EVERY INPUT', by the rows' own cells (each row's printed sentence says how): FnTermText: laid · FnExactParseTerm: laid · FnExactParseCast: laid · FnCompilePart: laid · FnCompileStatic: laid · FnCompileTerm: laid · FnCastText: laid.
  DERIVED. THE GIVEN ROWS OF THIS SEAT. 7 by the template 'for every input the law returns true; each argument reads behind the call as it read before'; 0 by the template 'total and deterministic' (their statements: YtgodjiieijekiaaGreatDoorTotals.lean).
  GIVEN WITH THE SEED: the statements are not yours to turn. If you find one false, say at which input.
  Laid BY PROGRAM, IN A SANDBOX (cutbox-rows.mjs): the forced cells as the released guide's own fill.sh prints them over the translation c7d7c8cd2b86cf28… (all of the seat's roots in one cut). By AI agents, Wed Nov 11 2026. No macro, syntax, notation, axiom, sorry.
-/
import Derived.Test.YtgodjiieijekiaaGreatDoorChecked
import GoSem.Claim
import GoSem.ClaimJoined
import GoSem.ClaimMapViews
import Derived.JoinedTies
import Derived.KernelRfl
namespace Go.Proofs.YtgodjiieijekiaaGreatDoor
/- THE CELL 'sum', in the pinned program and in every row, IS THE sha256 OF THE DUMP (.gsa) THAT YtgodjiieijekiaaGreatDoorProg.lean LOADS. Nothing in Lean hashes anything: it is a label: what it is worth is what the hold of that sum in a sandbox is worth. -/
noncomputable def Tryz.pinned : Pinned := { name := "ytgodjiieijekiaagreatdoor", sum := "c7d7c8cd2b86cf2895c5abc5c0929ba2a6977246187f87738920bddb1fe262fe", checked := Tryz.checked }
namespace Rows
def none {H : Type} : Left H := { results := [], args := [] }

/- WHAT THE LISTED PACKAGE-LEVEL VARIABLES READ AS WHEN THE CALL BEGINS. Each datum BY PROGRAM (the guide's laid-datum.mjs) off the statement by which the dump's own 'gosem.cut.vars' lays the variable. In a bare row this is a premise. The card (YtgodjiieijekiaaGreatDoorCards.lean) ties it to the program's text. -/
def laid_math_bits_deBruijn32tab {H : Type} : DataW H := .agg [.lit (.int .u8 0), .lit (.int .u8 1), .lit (.int .u8 28), .lit (.int .u8 2), .lit (.int .u8 29), .lit (.int .u8 14), .lit (.int .u8 24), .lit (.int .u8 3), .lit (.int .u8 30), .lit (.int .u8 22), .lit (.int .u8 20), .lit (.int .u8 15), .lit (.int .u8 25), .lit (.int .u8 17), .lit (.int .u8 4), .lit (.int .u8 8), .lit (.int .u8 31), .lit (.int .u8 27), .lit (.int .u8 13), .lit (.int .u8 23), .lit (.int .u8 21), .lit (.int .u8 19), .lit (.int .u8 16), .lit (.int .u8 7), .lit (.int .u8 26), .lit (.int .u8 12), .lit (.int .u8 18), .lit (.int .u8 6), .lit (.int .u8 11), .lit (.int .u8 5), .lit (.int .u8 10), .lit (.int .u8 9)]
def laid_math_bits_deBruijn64tab {H : Type} : DataW H := .agg [.lit (.int .u8 0), .lit (.int .u8 1), .lit (.int .u8 56), .lit (.int .u8 2), .lit (.int .u8 57), .lit (.int .u8 49), .lit (.int .u8 28), .lit (.int .u8 3), .lit (.int .u8 61), .lit (.int .u8 58), .lit (.int .u8 42), .lit (.int .u8 50), .lit (.int .u8 38), .lit (.int .u8 29), .lit (.int .u8 17), .lit (.int .u8 4), .lit (.int .u8 62), .lit (.int .u8 47), .lit (.int .u8 59), .lit (.int .u8 36), .lit (.int .u8 45), .lit (.int .u8 43), .lit (.int .u8 51), .lit (.int .u8 22), .lit (.int .u8 53), .lit (.int .u8 39), .lit (.int .u8 33), .lit (.int .u8 30), .lit (.int .u8 24), .lit (.int .u8 18), .lit (.int .u8 12), .lit (.int .u8 5), .lit (.int .u8 63), .lit (.int .u8 55), .lit (.int .u8 48), .lit (.int .u8 27), .lit (.int .u8 60), .lit (.int .u8 41), .lit (.int .u8 37), .lit (.int .u8 16), .lit (.int .u8 46), .lit (.int .u8 35), .lit (.int .u8 44), .lit (.int .u8 21), .lit (.int .u8 52), .lit (.int .u8 32), .lit (.int .u8 23), .lit (.int .u8 11), .lit (.int .u8 54), .lit (.int .u8 26), .lit (.int .u8 40), .lit (.int .u8 15), .lit (.int .u8 34), .lit (.int .u8 20), .lit (.int .u8 31), .lit (.int .u8 10), .lit (.int .u8 25), .lit (.int .u8 14), .lit (.int .u8 19), .lit (.int .u8 9), .lit (.int .u8 13), .lit (.int .u8 8), .lit (.int .u8 7), .lit (.int .u8 6)]
def laid_internal_strconv_uint64pow10 {H : Type} : DataW H := .agg [.lit (.int .u64 1), .lit (.int .u64 10), .lit (.int .u64 100), .lit (.int .u64 1000), .lit (.int .u64 10000), .lit (.int .u64 100000), .lit (.int .u64 1000000), .lit (.int .u64 10000000), .lit (.int .u64 100000000), .lit (.int .u64 1000000000), .lit (.int .u64 10000000000), .lit (.int .u64 100000000000), .lit (.int .u64 1000000000000), .lit (.int .u64 10000000000000), .lit (.int .u64 100000000000000), .lit (.int .u64 1000000000000000), .lit (.int .u64 10000000000000000), .lit (.int .u64 100000000000000000), .lit (.int .u64 1000000000000000000), .lit (.int .u64 10000000000000000000)]
def laid_strconv_ErrRange {H : Type} : DataW H := .iface "*errors.errorString" (.ptr (.agg [.lit (.string [118, 97, 108, 117, 101, 32, 111, 117, 116, 32, 111, 102, 32, 114, 97, 110, 103, 101])]))
def laid_strconv_ErrSyntax {H : Type} : DataW H := .iface "*errors.errorString" (.ptr (.agg [.lit (.string [105, 110, 118, 97, 108, 105, 100, 32, 115, 121, 110, 116, 97, 120])]))

/-- 'laws.FnTermText': WHATEVER THE INPUT: true; the input reads as it did. -/
def fnTermTextSpec : ChangeSpec := { name := "fnTermText", fn := fun _ => fun
  | [d1, d2] => { results := [.lit (.bool true)], args := [d1, d2] }
  | _ => none }
def fnTermTextRow : OpenClaim := { program := "ytgodjiieijekiaagreatdoor", sum := "c7d7c8cd2b86cf2895c5abc5c0929ba2a6977246187f87738920bddb1fe262fe", func := "loop.example/gradual/laws.FnTermText", spec := "fnTermText", inPlace := ["internal/bytealg.IndexByteString"], unfollowed := true, recurses := true, named := ["internal/strconv.uint64pow10", "math/bits.deBruijn32tab", "math/bits.deBruijn64tab", "strconv.ErrSyntax", "strconv.ErrRange"], apart := false, laid := [("math/bits.deBruijn32tab", laid_math_bits_deBruijn32tab), ("math/bits.deBruijn64tab", laid_math_bits_deBruijn64tab), ("internal/strconv.uint64pow10", laid_internal_strconv_uint64pow10), ("strconv.ErrRange", laid_strconv_ErrRange), ("strconv.ErrSyntax", laid_strconv_ErrSyntax)] }
def FnTermTextSaid : Prop := fnTermTextRow.holds Tryz.pinned (OpenSpec.ofChange fnTermTextSpec)

/-- ITS FALSE NEIGHBOUR: 'it returns false'. Refute it at one input. -/
def fnTermTextWrong : ChangeSpec := { name := "fnTermText", fn := fun _ => fun
  | [d1, d2] => { results := [.lit (.bool false)], args := [d1, d2] }
  | _ => none }
def FnTermTextWrongFalsely : Prop := fnTermTextRow.holds Tryz.pinned (OpenSpec.ofChange fnTermTextWrong)

/-- 'laws.FnExactParseTerm': WHATEVER THE INPUT: true; the input reads as it did. -/
def fnExactParseTermSpec : ChangeSpec := { name := "fnExactParseTerm", fn := fun _ => fun
  | [d] => { results := [.lit (.bool true)], args := [d] }
  | _ => none }
def fnExactParseTermRow : OpenClaim := { program := "ytgodjiieijekiaagreatdoor", sum := "c7d7c8cd2b86cf2895c5abc5c0929ba2a6977246187f87738920bddb1fe262fe", func := "loop.example/gradual/laws.FnExactParseTerm", spec := "fnExactParseTerm", inPlace := ["internal/bytealg.IndexByteString"], unfollowed := true, recurses := true, named := ["strconv.ErrSyntax", "strconv.ErrRange", "internal/strconv.uint64pow10", "math/bits.deBruijn32tab", "math/bits.deBruijn64tab"], apart := false, laid := [("math/bits.deBruijn32tab", laid_math_bits_deBruijn32tab), ("math/bits.deBruijn64tab", laid_math_bits_deBruijn64tab), ("internal/strconv.uint64pow10", laid_internal_strconv_uint64pow10), ("strconv.ErrRange", laid_strconv_ErrRange), ("strconv.ErrSyntax", laid_strconv_ErrSyntax)] }
def FnExactParseTermSaid : Prop := fnExactParseTermRow.holds Tryz.pinned (OpenSpec.ofChange fnExactParseTermSpec)

/-- ITS FALSE NEIGHBOUR: 'it returns false'. Refute it at one input. -/
def fnExactParseTermWrong : ChangeSpec := { name := "fnExactParseTerm", fn := fun _ => fun
  | [d] => { results := [.lit (.bool false)], args := [d] }
  | _ => none }
def FnExactParseTermWrongFalsely : Prop := fnExactParseTermRow.holds Tryz.pinned (OpenSpec.ofChange fnExactParseTermWrong)

/-- 'laws.FnExactParseCast': WHATEVER THE INPUT: true; the input reads as it did. -/
def fnExactParseCastSpec : ChangeSpec := { name := "fnExactParseCast", fn := fun _ => fun
  | [d] => { results := [.lit (.bool true)], args := [d] }
  | _ => none }
def fnExactParseCastRow : OpenClaim := { program := "ytgodjiieijekiaagreatdoor", sum := "c7d7c8cd2b86cf2895c5abc5c0929ba2a6977246187f87738920bddb1fe262fe", func := "loop.example/gradual/laws.FnExactParseCast", spec := "fnExactParseCast", inPlace := ["internal/bytealg.IndexByteString"], unfollowed := true, recurses := true, named := ["strconv.ErrSyntax", "strconv.ErrRange", "internal/strconv.uint64pow10", "math/bits.deBruijn32tab", "math/bits.deBruijn64tab"], apart := false, laid := [("math/bits.deBruijn32tab", laid_math_bits_deBruijn32tab), ("math/bits.deBruijn64tab", laid_math_bits_deBruijn64tab), ("internal/strconv.uint64pow10", laid_internal_strconv_uint64pow10), ("strconv.ErrRange", laid_strconv_ErrRange), ("strconv.ErrSyntax", laid_strconv_ErrSyntax)] }
def FnExactParseCastSaid : Prop := fnExactParseCastRow.holds Tryz.pinned (OpenSpec.ofChange fnExactParseCastSpec)

/-- ITS FALSE NEIGHBOUR: 'it returns false'. Refute it at one input. -/
def fnExactParseCastWrong : ChangeSpec := { name := "fnExactParseCast", fn := fun _ => fun
  | [d] => { results := [.lit (.bool false)], args := [d] }
  | _ => none }
def FnExactParseCastWrongFalsely : Prop := fnExactParseCastRow.holds Tryz.pinned (OpenSpec.ofChange fnExactParseCastWrong)

/-- 'laws.FnCompilePart': WHATEVER THE INPUT: true; the input reads as it did. -/
def fnCompilePartSpec : ChangeSpec := { name := "fnCompilePart", fn := fun _ => fun
  | [d1, d2] => { results := [.lit (.bool true)], args := [d1, d2] }
  | _ => none }
def fnCompilePartRow : OpenClaim := { program := "ytgodjiieijekiaagreatdoor", sum := "c7d7c8cd2b86cf2895c5abc5c0929ba2a6977246187f87738920bddb1fe262fe", func := "loop.example/gradual/laws.FnCompilePart", spec := "fnCompilePart", inPlace := ["internal/bytealg.IndexByteString", "internal/bytealg.IndexString"], unfollowed := true, recurses := true, named := ["internal/bytealg.MaxLen", "internal/strconv.uint64pow10", "math/bits.deBruijn32tab", "math/bits.deBruijn64tab"], apart := false, laid := [("math/bits.deBruijn32tab", laid_math_bits_deBruijn32tab), ("math/bits.deBruijn64tab", laid_math_bits_deBruijn64tab), ("internal/strconv.uint64pow10", laid_internal_strconv_uint64pow10)] }
def FnCompilePartSaid : Prop := fnCompilePartRow.holds Tryz.pinned (OpenSpec.ofChange fnCompilePartSpec)

/-- ITS FALSE NEIGHBOUR: 'it returns false'. Refute it at one input. -/
def fnCompilePartWrong : ChangeSpec := { name := "fnCompilePart", fn := fun _ => fun
  | [d1, d2] => { results := [.lit (.bool false)], args := [d1, d2] }
  | _ => none }
def FnCompilePartWrongFalsely : Prop := fnCompilePartRow.holds Tryz.pinned (OpenSpec.ofChange fnCompilePartWrong)

/-- 'laws.FnCompileStatic': WHATEVER THE INPUT: true; the input reads as it did. -/
def fnCompileStaticSpec : ChangeSpec := { name := "fnCompileStatic", fn := fun _ => fun
  | [d] => { results := [.lit (.bool true)], args := [d] }
  | _ => none }
def fnCompileStaticRow : OpenClaim := { program := "ytgodjiieijekiaagreatdoor", sum := "c7d7c8cd2b86cf2895c5abc5c0929ba2a6977246187f87738920bddb1fe262fe", func := "loop.example/gradual/laws.FnCompileStatic", spec := "fnCompileStatic", inPlace := ["internal/bytealg.IndexByteString", "internal/bytealg.IndexString"], unfollowed := true, recurses := true, named := ["internal/bytealg.MaxLen", "internal/strconv.uint64pow10", "math/bits.deBruijn32tab", "math/bits.deBruijn64tab"], apart := false, laid := [("math/bits.deBruijn32tab", laid_math_bits_deBruijn32tab), ("math/bits.deBruijn64tab", laid_math_bits_deBruijn64tab), ("internal/strconv.uint64pow10", laid_internal_strconv_uint64pow10)] }
def FnCompileStaticSaid : Prop := fnCompileStaticRow.holds Tryz.pinned (OpenSpec.ofChange fnCompileStaticSpec)

/-- ITS FALSE NEIGHBOUR: 'it returns false'. Refute it at one input. -/
def fnCompileStaticWrong : ChangeSpec := { name := "fnCompileStatic", fn := fun _ => fun
  | [d] => { results := [.lit (.bool false)], args := [d] }
  | _ => none }
def FnCompileStaticWrongFalsely : Prop := fnCompileStaticRow.holds Tryz.pinned (OpenSpec.ofChange fnCompileStaticWrong)

/-- 'laws.FnCompileTerm': WHATEVER THE INPUT: true; the input reads as it did. -/
def fnCompileTermSpec : ChangeSpec := { name := "fnCompileTerm", fn := fun _ => fun
  | [d] => { results := [.lit (.bool true)], args := [d] }
  | _ => none }
def fnCompileTermRow : OpenClaim := { program := "ytgodjiieijekiaagreatdoor", sum := "c7d7c8cd2b86cf2895c5abc5c0929ba2a6977246187f87738920bddb1fe262fe", func := "loop.example/gradual/laws.FnCompileTerm", spec := "fnCompileTerm", inPlace := ["internal/bytealg.IndexByteString", "internal/bytealg.IndexString"], unfollowed := true, recurses := true, named := ["internal/bytealg.MaxLen", "internal/strconv.uint64pow10", "math/bits.deBruijn32tab", "math/bits.deBruijn64tab"], apart := false, laid := [("math/bits.deBruijn32tab", laid_math_bits_deBruijn32tab), ("math/bits.deBruijn64tab", laid_math_bits_deBruijn64tab), ("internal/strconv.uint64pow10", laid_internal_strconv_uint64pow10)] }
def FnCompileTermSaid : Prop := fnCompileTermRow.holds Tryz.pinned (OpenSpec.ofChange fnCompileTermSpec)

/-- ITS FALSE NEIGHBOUR: 'it returns false'. Refute it at one input. -/
def fnCompileTermWrong : ChangeSpec := { name := "fnCompileTerm", fn := fun _ => fun
  | [d] => { results := [.lit (.bool false)], args := [d] }
  | _ => none }
def FnCompileTermWrongFalsely : Prop := fnCompileTermRow.holds Tryz.pinned (OpenSpec.ofChange fnCompileTermWrong)

/-- 'laws.FnCastText': WHATEVER THE INPUT: true; the input reads as it did. -/
def fnCastTextSpec : ChangeSpec := { name := "fnCastText", fn := fun _ => fun
  | [d1, d2] => { results := [.lit (.bool true)], args := [d1, d2] }
  | _ => none }
def fnCastTextRow : OpenClaim := { program := "ytgodjiieijekiaagreatdoor", sum := "c7d7c8cd2b86cf2895c5abc5c0929ba2a6977246187f87738920bddb1fe262fe", func := "loop.example/gradual/laws.FnCastText", spec := "fnCastText", inPlace := ["internal/bytealg.IndexByteString"], unfollowed := true, recurses := true, named := ["internal/strconv.uint64pow10", "math/bits.deBruijn32tab", "math/bits.deBruijn64tab", "strconv.ErrSyntax", "strconv.ErrRange"], apart := false, laid := [("math/bits.deBruijn32tab", laid_math_bits_deBruijn32tab), ("math/bits.deBruijn64tab", laid_math_bits_deBruijn64tab), ("internal/strconv.uint64pow10", laid_internal_strconv_uint64pow10), ("strconv.ErrRange", laid_strconv_ErrRange), ("strconv.ErrSyntax", laid_strconv_ErrSyntax)] }
def FnCastTextSaid : Prop := fnCastTextRow.holds Tryz.pinned (OpenSpec.ofChange fnCastTextSpec)

/-- ITS FALSE NEIGHBOUR: 'it returns false'. Refute it at one input. -/
def fnCastTextWrong : ChangeSpec := { name := "fnCastText", fn := fun _ => fun
  | [d1, d2] => { results := [.lit (.bool false)], args := [d1, d2] }
  | _ => none }
def FnCastTextWrongFalsely : Prop := fnCastTextRow.holds Tryz.pinned (OpenSpec.ofChange fnCastTextWrong)

/- THE SECOND FORM. 'bulk': how many values and letters a reading holds, each counted each time it is reached (what is shared counts as often as it is met; a slice's spare places count too). A statement '..UptoSaid' is the law's where the arguments, and the package variables that the reading takes, are together of bulk at most 1048576: NARROWER than '..Said'. Prove '..Said' where nothing that the law and all that it calls make is longer than what came in: it says more and counts as full. Else prove '..UptoSaid'. A law counts once. -/
mutual
def uptoBulk {H : Type} : DataW H → Nat
  | .lit (.string bytes) => bytes.length + 1
  | .lit _ => 1
  | .nil => 1
  | .ptr d => uptoBulk d + 1
  | .slice elems spare => uptoBulkAll elems + uptoBulkAll spare + 1
  | .agg parts => uptoBulkAll parts + 1
  | .iface _ d => uptoBulk d + 1
  | .map entries => uptoBulkEntries entries + 1
  | .held _ => 1
def uptoBulkAll {H : Type} : List (DataW H) → Nat
  | [] => 0
  | d :: r => uptoBulk d + uptoBulkAll r
def uptoBulkEntries {H : Type} : List (Lit × DataW H) → Nat
  | [] => 0
  | x :: r => uptoBulkEntry x + uptoBulkEntries r
def uptoBulkEntry {H : Type} : Lit × DataW H → Nat
  | (.string bytes, d) => bytes.length + uptoBulk d + 1
  | (_, d) => uptoBulk d + 1
 end
def uptoSmall : (H : Type) → List (DataW H) → Bool := fun _ ds => decide (uptoBulkAll ds ≤ 1048576)
def OpenSpec.upto (s : _root_.Go.ChangeSpec) : _root_.Go.OpenSpec := { _root_.Go.OpenSpec.ofChange s with cond := some uptoSmall }

/-- 'laws.FnTermText', WHERE WHAT IT READS IS OF BULK AT MOST 1048576: true; the input reads as it did. -/
def fnTermTextUptoRow : OpenClaim := { program := "ytgodjiieijekiaagreatdoor", sum := "c7d7c8cd2b86cf2895c5abc5c0929ba2a6977246187f87738920bddb1fe262fe", func := "loop.example/gradual/laws.FnTermText", spec := "fnTermText", inPlace := ["internal/bytealg.IndexByteString"], unfollowed := true, recurses := true, named := ["internal/strconv.uint64pow10", "math/bits.deBruijn32tab", "math/bits.deBruijn64tab", "strconv.ErrSyntax", "strconv.ErrRange"], apart := false, laid := [("math/bits.deBruijn32tab", laid_math_bits_deBruijn32tab), ("math/bits.deBruijn64tab", laid_math_bits_deBruijn64tab), ("internal/strconv.uint64pow10", laid_internal_strconv_uint64pow10), ("strconv.ErrRange", laid_strconv_ErrRange), ("strconv.ErrSyntax", laid_strconv_ErrSyntax)], narrowed := true }
def FnTermTextUptoSaid : Prop := fnTermTextUptoRow.holds Tryz.pinned (OpenSpec.upto fnTermTextSpec)

/-- 'laws.FnExactParseTerm', WHERE WHAT IT READS IS OF BULK AT MOST 1048576: true; the input reads as it did. -/
def fnExactParseTermUptoRow : OpenClaim := { program := "ytgodjiieijekiaagreatdoor", sum := "c7d7c8cd2b86cf2895c5abc5c0929ba2a6977246187f87738920bddb1fe262fe", func := "loop.example/gradual/laws.FnExactParseTerm", spec := "fnExactParseTerm", inPlace := ["internal/bytealg.IndexByteString"], unfollowed := true, recurses := true, named := ["strconv.ErrSyntax", "strconv.ErrRange", "internal/strconv.uint64pow10", "math/bits.deBruijn32tab", "math/bits.deBruijn64tab"], apart := false, laid := [("math/bits.deBruijn32tab", laid_math_bits_deBruijn32tab), ("math/bits.deBruijn64tab", laid_math_bits_deBruijn64tab), ("internal/strconv.uint64pow10", laid_internal_strconv_uint64pow10), ("strconv.ErrRange", laid_strconv_ErrRange), ("strconv.ErrSyntax", laid_strconv_ErrSyntax)], narrowed := true }
def FnExactParseTermUptoSaid : Prop := fnExactParseTermUptoRow.holds Tryz.pinned (OpenSpec.upto fnExactParseTermSpec)

/-- 'laws.FnExactParseCast', WHERE WHAT IT READS IS OF BULK AT MOST 1048576: true; the input reads as it did. -/
def fnExactParseCastUptoRow : OpenClaim := { program := "ytgodjiieijekiaagreatdoor", sum := "c7d7c8cd2b86cf2895c5abc5c0929ba2a6977246187f87738920bddb1fe262fe", func := "loop.example/gradual/laws.FnExactParseCast", spec := "fnExactParseCast", inPlace := ["internal/bytealg.IndexByteString"], unfollowed := true, recurses := true, named := ["strconv.ErrSyntax", "strconv.ErrRange", "internal/strconv.uint64pow10", "math/bits.deBruijn32tab", "math/bits.deBruijn64tab"], apart := false, laid := [("math/bits.deBruijn32tab", laid_math_bits_deBruijn32tab), ("math/bits.deBruijn64tab", laid_math_bits_deBruijn64tab), ("internal/strconv.uint64pow10", laid_internal_strconv_uint64pow10), ("strconv.ErrRange", laid_strconv_ErrRange), ("strconv.ErrSyntax", laid_strconv_ErrSyntax)], narrowed := true }
def FnExactParseCastUptoSaid : Prop := fnExactParseCastUptoRow.holds Tryz.pinned (OpenSpec.upto fnExactParseCastSpec)

/-- 'laws.FnCompilePart', WHERE WHAT IT READS IS OF BULK AT MOST 1048576: true; the input reads as it did. -/
def fnCompilePartUptoRow : OpenClaim := { program := "ytgodjiieijekiaagreatdoor", sum := "c7d7c8cd2b86cf2895c5abc5c0929ba2a6977246187f87738920bddb1fe262fe", func := "loop.example/gradual/laws.FnCompilePart", spec := "fnCompilePart", inPlace := ["internal/bytealg.IndexByteString", "internal/bytealg.IndexString"], unfollowed := true, recurses := true, named := ["internal/bytealg.MaxLen", "internal/strconv.uint64pow10", "math/bits.deBruijn32tab", "math/bits.deBruijn64tab"], apart := false, laid := [("math/bits.deBruijn32tab", laid_math_bits_deBruijn32tab), ("math/bits.deBruijn64tab", laid_math_bits_deBruijn64tab), ("internal/strconv.uint64pow10", laid_internal_strconv_uint64pow10)], narrowed := true }
def FnCompilePartUptoSaid : Prop := fnCompilePartUptoRow.holds Tryz.pinned (OpenSpec.upto fnCompilePartSpec)

/-- 'laws.FnCompileStatic', WHERE WHAT IT READS IS OF BULK AT MOST 1048576: true; the input reads as it did. -/
def fnCompileStaticUptoRow : OpenClaim := { program := "ytgodjiieijekiaagreatdoor", sum := "c7d7c8cd2b86cf2895c5abc5c0929ba2a6977246187f87738920bddb1fe262fe", func := "loop.example/gradual/laws.FnCompileStatic", spec := "fnCompileStatic", inPlace := ["internal/bytealg.IndexByteString", "internal/bytealg.IndexString"], unfollowed := true, recurses := true, named := ["internal/bytealg.MaxLen", "internal/strconv.uint64pow10", "math/bits.deBruijn32tab", "math/bits.deBruijn64tab"], apart := false, laid := [("math/bits.deBruijn32tab", laid_math_bits_deBruijn32tab), ("math/bits.deBruijn64tab", laid_math_bits_deBruijn64tab), ("internal/strconv.uint64pow10", laid_internal_strconv_uint64pow10)], narrowed := true }
def FnCompileStaticUptoSaid : Prop := fnCompileStaticUptoRow.holds Tryz.pinned (OpenSpec.upto fnCompileStaticSpec)

/-- 'laws.FnCompileTerm', WHERE WHAT IT READS IS OF BULK AT MOST 1048576: true; the input reads as it did. -/
def fnCompileTermUptoRow : OpenClaim := { program := "ytgodjiieijekiaagreatdoor", sum := "c7d7c8cd2b86cf2895c5abc5c0929ba2a6977246187f87738920bddb1fe262fe", func := "loop.example/gradual/laws.FnCompileTerm", spec := "fnCompileTerm", inPlace := ["internal/bytealg.IndexByteString", "internal/bytealg.IndexString"], unfollowed := true, recurses := true, named := ["internal/bytealg.MaxLen", "internal/strconv.uint64pow10", "math/bits.deBruijn32tab", "math/bits.deBruijn64tab"], apart := false, laid := [("math/bits.deBruijn32tab", laid_math_bits_deBruijn32tab), ("math/bits.deBruijn64tab", laid_math_bits_deBruijn64tab), ("internal/strconv.uint64pow10", laid_internal_strconv_uint64pow10)], narrowed := true }
def FnCompileTermUptoSaid : Prop := fnCompileTermUptoRow.holds Tryz.pinned (OpenSpec.upto fnCompileTermSpec)

/-- 'laws.FnCastText', WHERE WHAT IT READS IS OF BULK AT MOST 1048576: true; the input reads as it did. -/
def fnCastTextUptoRow : OpenClaim := { program := "ytgodjiieijekiaagreatdoor", sum := "c7d7c8cd2b86cf2895c5abc5c0929ba2a6977246187f87738920bddb1fe262fe", func := "loop.example/gradual/laws.FnCastText", spec := "fnCastText", inPlace := ["internal/bytealg.IndexByteString"], unfollowed := true, recurses := true, named := ["internal/strconv.uint64pow10", "math/bits.deBruijn32tab", "math/bits.deBruijn64tab", "strconv.ErrSyntax", "strconv.ErrRange"], apart := false, laid := [("math/bits.deBruijn32tab", laid_math_bits_deBruijn32tab), ("math/bits.deBruijn64tab", laid_math_bits_deBruijn64tab), ("internal/strconv.uint64pow10", laid_internal_strconv_uint64pow10), ("strconv.ErrRange", laid_strconv_ErrRange), ("strconv.ErrSyntax", laid_strconv_ErrSyntax)], narrowed := true }
def FnCastTextUptoSaid : Prop := fnCastTextUptoRow.holds Tryz.pinned (OpenSpec.upto fnCastTextSpec)

end Rows
end Go.Proofs.YtgodjiieijekiaaGreatDoor
