/-
  NARROWER THAN 'FOR EVERY INPUT', by the rows' own cells (each row's printed sentence says how): FnExactAllPaths: loops · FnExactCastPath: loops · FnExactTermAt: loops · FnExactReplaceAt: loops.
  DERIVED. THE GIVEN ROWS OF THIS SEAT. 6 by the template 'for every input the law returns true; each argument reads behind the call as it read before'; 0 by the template 'total and deterministic' (their statements: YtlefgfdhlblahaaTotals.lean).
  GIVEN WITH THE SEED: the statements are not yours to turn. If you find one false, say at which input.
  Laid BY PROGRAM, IN A SANDBOX (cutbox-rows.mjs): the forced cells as the released guide's own fill.sh prints them over the translation 1f978722fafc6749… (all of the seat's roots in one cut). By AI agents, Wed Nov 11 2026. No macro, syntax, notation, axiom, sorry.
-/
import Derived.Test.YtlefgfdhlblahaaChecked
import GoSem.Claim
import GoSem.ClaimJoined
import GoSem.ClaimMapViews
import Derived.JoinedTies
import Derived.KernelRfl
namespace Go.Proofs.Ytlefgfdhlblahaa
/- THE CELL 'sum', in the pinned program and in every row, IS THE sha256 OF THE DUMP (.gsa) THAT YtlefgfdhlblahaaProg.lean LOADS. Nothing in Lean hashes anything: it is a label: what it is worth is what the hold of that sum in a sandbox is worth. -/
noncomputable def Try.pinned : Pinned := { name := "ytlefgfdhlblahaa", sum := "1f978722fafc6749974b249cac61deeafa1bb0ca09c43841c51e455a15db7e25", checked := Try.checked }
namespace Rows
def none {H : Type} : Left H := { results := [], args := [] }

/-- 'laws.FnPathsCount': WHATEVER THE INPUT: true; the input reads as it did. -/
def fnPathsCountSpec : ChangeSpec := { name := "fnPathsCount", fn := fun _ => fun
  | [d] => { results := [.lit (.bool true)], args := [d] }
  | _ => none }
def fnPathsCountRow : OpenClaim := { program := "ytlefgfdhlblahaa", sum := "1f978722fafc6749974b249cac61deeafa1bb0ca09c43841c51e455a15db7e25", func := "loop.example/gradual/laws.FnPathsCount", spec := "fnPathsCount", unfollowed := true, recurses := true, apart := false }
def FnPathsCountSaid : Prop := fnPathsCountRow.holds Try.pinned (OpenSpec.ofChange fnPathsCountSpec)

/-- ITS FALSE NEIGHBOUR: 'it returns false'. Refute it at one input. -/
def fnPathsCountWrong : ChangeSpec := { name := "fnPathsCount", fn := fun _ => fun
  | [d] => { results := [.lit (.bool false)], args := [d] }
  | _ => none }
def FnPathsCountWrongFalsely : Prop := fnPathsCountRow.holds Try.pinned (OpenSpec.ofChange fnPathsCountWrong)

/-- 'laws.FnExactAllPaths': WHATEVER THE INPUT: true; the input reads as it did. -/
def fnExactAllPathsSpec : ChangeSpec := { name := "fnExactAllPaths", fn := fun _ => fun
  | [d] => { results := [.lit (.bool true)], args := [d] }
  | _ => none }
def fnExactAllPathsRow : OpenClaim := { program := "ytlefgfdhlblahaa", sum := "1f978722fafc6749974b249cac61deeafa1bb0ca09c43841c51e455a15db7e25", func := "loop.example/gradual/laws.FnExactAllPaths", spec := "fnExactAllPaths", unfollowed := true, recurses := true, loops := true, apart := false }
def FnExactAllPathsSaid : Prop := fnExactAllPathsRow.holds Try.pinned (OpenSpec.ofChange fnExactAllPathsSpec)

/-- ITS FALSE NEIGHBOUR: 'it returns false'. Refute it at one input. -/
def fnExactAllPathsWrong : ChangeSpec := { name := "fnExactAllPaths", fn := fun _ => fun
  | [d] => { results := [.lit (.bool false)], args := [d] }
  | _ => none }
def FnExactAllPathsWrongFalsely : Prop := fnExactAllPathsRow.holds Try.pinned (OpenSpec.ofChange fnExactAllPathsWrong)

/-- 'laws.FnExactCastPath': WHATEVER THE INPUT: true; the input reads as it did. -/
def fnExactCastPathSpec : ChangeSpec := { name := "fnExactCastPath", fn := fun _ => fun
  | [d1, d2] => { results := [.lit (.bool true)], args := [d1, d2] }
  | _ => none }
def fnExactCastPathRow : OpenClaim := { program := "ytlefgfdhlblahaa", sum := "1f978722fafc6749974b249cac61deeafa1bb0ca09c43841c51e455a15db7e25", func := "loop.example/gradual/laws.FnExactCastPath", spec := "fnExactCastPath", unfollowed := true, recurses := true, loops := true, apart := false }
def FnExactCastPathSaid : Prop := fnExactCastPathRow.holds Try.pinned (OpenSpec.ofChange fnExactCastPathSpec)

/-- ITS FALSE NEIGHBOUR: 'it returns false'. Refute it at one input. -/
def fnExactCastPathWrong : ChangeSpec := { name := "fnExactCastPath", fn := fun _ => fun
  | [d1, d2] => { results := [.lit (.bool false)], args := [d1, d2] }
  | _ => none }
def FnExactCastPathWrongFalsely : Prop := fnExactCastPathRow.holds Try.pinned (OpenSpec.ofChange fnExactCastPathWrong)

/-- 'laws.FnExactTermAt': WHATEVER THE INPUT: true; the input reads as it did. -/
def fnExactTermAtSpec : ChangeSpec := { name := "fnExactTermAt", fn := fun _ => fun
  | [d1, d2] => { results := [.lit (.bool true)], args := [d1, d2] }
  | _ => none }
def fnExactTermAtRow : OpenClaim := { program := "ytlefgfdhlblahaa", sum := "1f978722fafc6749974b249cac61deeafa1bb0ca09c43841c51e455a15db7e25", func := "loop.example/gradual/laws.FnExactTermAt", spec := "fnExactTermAt", unfollowed := true, recurses := true, loops := true, apart := false }
def FnExactTermAtSaid : Prop := fnExactTermAtRow.holds Try.pinned (OpenSpec.ofChange fnExactTermAtSpec)

/-- ITS FALSE NEIGHBOUR: 'it returns false'. Refute it at one input. -/
def fnExactTermAtWrong : ChangeSpec := { name := "fnExactTermAt", fn := fun _ => fun
  | [d1, d2] => { results := [.lit (.bool false)], args := [d1, d2] }
  | _ => none }
def FnExactTermAtWrongFalsely : Prop := fnExactTermAtRow.holds Try.pinned (OpenSpec.ofChange fnExactTermAtWrong)

/-- 'laws.FnExactReplaceAt': WHATEVER THE INPUT: true; the input reads as it did. -/
def fnExactReplaceAtSpec : ChangeSpec := { name := "fnExactReplaceAt", fn := fun _ => fun
  | [d1, d2, d3] => { results := [.lit (.bool true)], args := [d1, d2, d3] }
  | _ => none }
def fnExactReplaceAtRow : OpenClaim := { program := "ytlefgfdhlblahaa", sum := "1f978722fafc6749974b249cac61deeafa1bb0ca09c43841c51e455a15db7e25", func := "loop.example/gradual/laws.FnExactReplaceAt", spec := "fnExactReplaceAt", unfollowed := true, recurses := true, loops := true, apart := false }
def FnExactReplaceAtSaid : Prop := fnExactReplaceAtRow.holds Try.pinned (OpenSpec.ofChange fnExactReplaceAtSpec)

/-- ITS FALSE NEIGHBOUR: 'it returns false'. Refute it at one input. -/
def fnExactReplaceAtWrong : ChangeSpec := { name := "fnExactReplaceAt", fn := fun _ => fun
  | [d1, d2, d3] => { results := [.lit (.bool false)], args := [d1, d2, d3] }
  | _ => none }
def FnExactReplaceAtWrongFalsely : Prop := fnExactReplaceAtRow.holds Try.pinned (OpenSpec.ofChange fnExactReplaceAtWrong)

/-- 'laws.FnTermAt': WHATEVER THE INPUT: true; the input reads as it did. -/
def fnTermAtSpec : ChangeSpec := { name := "fnTermAt", fn := fun _ => fun
  | [d1, d2] => { results := [.lit (.bool true)], args := [d1, d2] }
  | _ => none }
def fnTermAtRow : OpenClaim := { program := "ytlefgfdhlblahaa", sum := "1f978722fafc6749974b249cac61deeafa1bb0ca09c43841c51e455a15db7e25", func := "loop.example/gradual/laws.FnTermAt", spec := "fnTermAt", unfollowed := true, recurses := true, apart := false }
def FnTermAtSaid : Prop := fnTermAtRow.holds Try.pinned (OpenSpec.ofChange fnTermAtSpec)

/-- ITS FALSE NEIGHBOUR: 'it returns false'. Refute it at one input. -/
def fnTermAtWrong : ChangeSpec := { name := "fnTermAt", fn := fun _ => fun
  | [d1, d2] => { results := [.lit (.bool false)], args := [d1, d2] }
  | _ => none }
def FnTermAtWrongFalsely : Prop := fnTermAtRow.holds Try.pinned (OpenSpec.ofChange fnTermAtWrong)

/- THE SECOND FORM. 'bulk': how many values and letters a reading holds, each counted each time it is reached (what is shared counts as often as it is met; a slice's spare places count too). A statement '..UptoSaid' is the law's where the arguments, and the package variables that the reading takes, are together of bulk at most 1048576: NARROWER than '..Said'. Prove '..Said' where nothing that the law and all that it calls make is longer than what came in: it says more and counts as full. Else prove '..UptoSaid'. A law counts once. -/
mutual
def uptoBulk {H : Type} : DataW H → Nat
  | .lit (.string bytes) => bytes.length + 1
  | .lit _ => 1
  | .nil => 1
  | .ptr d => uptoBulk d + 1
  | .slice elems spare => uptoBulkAll elems + uptoBulkAll spare + 1
  | .agg parts => uptoBulkAll parts + 1
  | .iface _ d => uptoBulk d + 1
  | .map entries => uptoBulkEntries entries + 1
  | .held _ => 1
def uptoBulkAll {H : Type} : List (DataW H) → Nat
  | [] => 0
  | d :: r => uptoBulk d + uptoBulkAll r
def uptoBulkEntries {H : Type} : List (Lit × DataW H) → Nat
  | [] => 0
  | x :: r => uptoBulkEntry x + uptoBulkEntries r
def uptoBulkEntry {H : Type} : Lit × DataW H → Nat
  | (.string bytes, d) => bytes.length + uptoBulk d + 1
  | (_, d) => uptoBulk d + 1
 end
def uptoSmall : (H : Type) → List (DataW H) → Bool := fun _ ds => decide (uptoBulkAll ds ≤ 1048576)
def OpenSpec.upto (s : _root_.Go.ChangeSpec) : _root_.Go.OpenSpec := { _root_.Go.OpenSpec.ofChange s with cond := some uptoSmall }

/-- 'laws.FnPathsCount', WHERE WHAT IT READS IS OF BULK AT MOST 1048576: true; the input reads as it did. -/
def fnPathsCountUptoRow : OpenClaim := { program := "ytlefgfdhlblahaa", sum := "1f978722fafc6749974b249cac61deeafa1bb0ca09c43841c51e455a15db7e25", func := "loop.example/gradual/laws.FnPathsCount", spec := "fnPathsCount", unfollowed := true, recurses := true, apart := false, narrowed := true }
def FnPathsCountUptoSaid : Prop := fnPathsCountUptoRow.holds Try.pinned (OpenSpec.upto fnPathsCountSpec)

/-- 'laws.FnExactAllPaths', WHERE WHAT IT READS IS OF BULK AT MOST 1048576: true; the input reads as it did. -/
def fnExactAllPathsUptoRow : OpenClaim := { program := "ytlefgfdhlblahaa", sum := "1f978722fafc6749974b249cac61deeafa1bb0ca09c43841c51e455a15db7e25", func := "loop.example/gradual/laws.FnExactAllPaths", spec := "fnExactAllPaths", unfollowed := true, recurses := true, loops := true, apart := false, narrowed := true }
def FnExactAllPathsUptoSaid : Prop := fnExactAllPathsUptoRow.holds Try.pinned (OpenSpec.upto fnExactAllPathsSpec)

/-- 'laws.FnExactCastPath', WHERE WHAT IT READS IS OF BULK AT MOST 1048576: true; the input reads as it did. -/
def fnExactCastPathUptoRow : OpenClaim := { program := "ytlefgfdhlblahaa", sum := "1f978722fafc6749974b249cac61deeafa1bb0ca09c43841c51e455a15db7e25", func := "loop.example/gradual/laws.FnExactCastPath", spec := "fnExactCastPath", unfollowed := true, recurses := true, loops := true, apart := false, narrowed := true }
def FnExactCastPathUptoSaid : Prop := fnExactCastPathUptoRow.holds Try.pinned (OpenSpec.upto fnExactCastPathSpec)

/-- 'laws.FnExactTermAt', WHERE WHAT IT READS IS OF BULK AT MOST 1048576: true; the input reads as it did. -/
def fnExactTermAtUptoRow : OpenClaim := { program := "ytlefgfdhlblahaa", sum := "1f978722fafc6749974b249cac61deeafa1bb0ca09c43841c51e455a15db7e25", func := "loop.example/gradual/laws.FnExactTermAt", spec := "fnExactTermAt", unfollowed := true, recurses := true, loops := true, apart := false, narrowed := true }
def FnExactTermAtUptoSaid : Prop := fnExactTermAtUptoRow.holds Try.pinned (OpenSpec.upto fnExactTermAtSpec)

/-- 'laws.FnExactReplaceAt', WHERE WHAT IT READS IS OF BULK AT MOST 1048576: true; the input reads as it did. -/
def fnExactReplaceAtUptoRow : OpenClaim := { program := "ytlefgfdhlblahaa", sum := "1f978722fafc6749974b249cac61deeafa1bb0ca09c43841c51e455a15db7e25", func := "loop.example/gradual/laws.FnExactReplaceAt", spec := "fnExactReplaceAt", unfollowed := true, recurses := true, loops := true, apart := false, narrowed := true }
def FnExactReplaceAtUptoSaid : Prop := fnExactReplaceAtUptoRow.holds Try.pinned (OpenSpec.upto fnExactReplaceAtSpec)

/-- 'laws.FnTermAt', WHERE WHAT IT READS IS OF BULK AT MOST 1048576: true; the input reads as it did. -/
def fnTermAtUptoRow : OpenClaim := { program := "ytlefgfdhlblahaa", sum := "1f978722fafc6749974b249cac61deeafa1bb0ca09c43841c51e455a15db7e25", func := "loop.example/gradual/laws.FnTermAt", spec := "fnTermAt", unfollowed := true, recurses := true, apart := false, narrowed := true }
def FnTermAtUptoSaid : Prop := fnTermAtUptoRow.holds Try.pinned (OpenSpec.upto fnTermAtSpec)

end Rows
end Go.Proofs.Ytlefgfdhlblahaa
