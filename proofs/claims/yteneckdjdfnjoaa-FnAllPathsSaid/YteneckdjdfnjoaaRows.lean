/-
  No cell of these rows narrows 'for every input' (looked for: loops, veiled, ifaces, maps, wideKeys, modest, calm, conditions, laid).
  DERIVED. THE GIVEN ROWS OF THIS SEAT. 3 by the template 'for every input the law returns true; each argument reads behind the call as it read before'; 0 by the template 'total and deterministic' (their statements: YteneckdjdfnjoaaTotals.lean).
  GIVEN WITH THE SEED: the statements are not yours to turn. If you find one false, say at which input.
  Laid BY PROGRAM, IN A SANDBOX (cutbox-rows.mjs): the forced cells as the released guide's own fill.sh prints them over the translation 23b7fe1d551ed3f8… (all of the seat's roots in one cut). By AI agents, Wed Nov 11 2026. No macro, syntax, notation, axiom, sorry.
-/
import Derived.Test.YteneckdjdfnjoaaChecked
import GoSem.Claim
import GoSem.ClaimJoined
import GoSem.ClaimMapViews
import Derived.JoinedTies
import Derived.KernelRfl
namespace Go.Proofs.Yteneckdjdfnjoaa
/- THE CELL 'sum', in the pinned program and in every row, IS THE sha256 OF THE DUMP (.gsa) THAT YteneckdjdfnjoaaProg.lean LOADS. Nothing in Lean hashes anything: it is a label: what it is worth is what the hold of that sum in a sandbox is worth. -/
noncomputable def Try.pinned : Pinned := { name := "yteneckdjdfnjoaa", sum := "23b7fe1d551ed3f8f7e35079669ed582fdf2df304334c1522b2fe77351a6daef", checked := Try.checked }
namespace Rows
def none {H : Type} : Left H := { results := [], args := [] }

/-- 'laws.FnAllPaths': WHATEVER THE INPUT: true; the input reads as it did. -/
def fnAllPathsSpec : ChangeSpec := { name := "fnAllPaths", fn := fun _ => fun
  | [d] => { results := [.lit (.bool true)], args := [d] }
  | _ => none }
def fnAllPathsRow : OpenClaim := { program := "yteneckdjdfnjoaa", sum := "23b7fe1d551ed3f8f7e35079669ed582fdf2df304334c1522b2fe77351a6daef", func := "loop.example/gradual/laws.FnAllPaths", spec := "fnAllPaths", unfollowed := true, recurses := true, apart := false }
def FnAllPathsSaid : Prop := fnAllPathsRow.holds Try.pinned (OpenSpec.ofChange fnAllPathsSpec)

/-- ITS FALSE NEIGHBOUR: 'it returns false'. Refute it at one input. -/
def fnAllPathsWrong : ChangeSpec := { name := "fnAllPaths", fn := fun _ => fun
  | [d] => { results := [.lit (.bool false)], args := [d] }
  | _ => none }
def FnAllPathsWrongFalsely : Prop := fnAllPathsRow.holds Try.pinned (OpenSpec.ofChange fnAllPathsWrong)

/-- 'laws.FnReplaceAt': WHATEVER THE INPUT: true; the input reads as it did. -/
def fnReplaceAtSpec : ChangeSpec := { name := "fnReplaceAt", fn := fun _ => fun
  | [d] => { results := [.lit (.bool true)], args := [d] }
  | _ => none }
def fnReplaceAtRow : OpenClaim := { program := "yteneckdjdfnjoaa", sum := "23b7fe1d551ed3f8f7e35079669ed582fdf2df304334c1522b2fe77351a6daef", func := "loop.example/gradual/laws.FnReplaceAt", spec := "fnReplaceAt", unfollowed := true, recurses := true, apart := false }
def FnReplaceAtSaid : Prop := fnReplaceAtRow.holds Try.pinned (OpenSpec.ofChange fnReplaceAtSpec)

/-- ITS FALSE NEIGHBOUR: 'it returns false'. Refute it at one input. -/
def fnReplaceAtWrong : ChangeSpec := { name := "fnReplaceAt", fn := fun _ => fun
  | [d] => { results := [.lit (.bool false)], args := [d] }
  | _ => none }
def FnReplaceAtWrongFalsely : Prop := fnReplaceAtRow.holds Try.pinned (OpenSpec.ofChange fnReplaceAtWrong)

/-- 'laws.FnCastPath': WHATEVER THE INPUT: true; the input reads as it did. -/
def fnCastPathSpec : ChangeSpec := { name := "fnCastPath", fn := fun _ => fun
  | [d] => { results := [.lit (.bool true)], args := [d] }
  | _ => none }
def fnCastPathRow : OpenClaim := { program := "yteneckdjdfnjoaa", sum := "23b7fe1d551ed3f8f7e35079669ed582fdf2df304334c1522b2fe77351a6daef", func := "loop.example/gradual/laws.FnCastPath", spec := "fnCastPath", unfollowed := true, recurses := true, apart := false }
def FnCastPathSaid : Prop := fnCastPathRow.holds Try.pinned (OpenSpec.ofChange fnCastPathSpec)

/-- ITS FALSE NEIGHBOUR: 'it returns false'. Refute it at one input. -/
def fnCastPathWrong : ChangeSpec := { name := "fnCastPath", fn := fun _ => fun
  | [d] => { results := [.lit (.bool false)], args := [d] }
  | _ => none }
def FnCastPathWrongFalsely : Prop := fnCastPathRow.holds Try.pinned (OpenSpec.ofChange fnCastPathWrong)

/- THE SECOND FORM. 'bulk': how many values and letters a reading holds, each counted each time it is reached (what is shared counts as often as it is met; a slice's spare places count too). A statement '..UptoSaid' is the law's where the arguments, and the package variables that the reading takes, are together of bulk at most 1048576: NARROWER than '..Said'. Prove '..Said' where nothing that the law and all that it calls make is longer than what came in: it says more and counts as full. Else prove '..UptoSaid'. A law counts once. -/
mutual
def uptoBulk {H : Type} : DataW H → Nat
  | .lit (.string bytes) => bytes.length + 1
  | .lit _ => 1
  | .nil => 1
  | .ptr d => uptoBulk d + 1
  | .slice elems spare => uptoBulkAll elems + uptoBulkAll spare + 1
  | .agg parts => uptoBulkAll parts + 1
  | .iface _ d => uptoBulk d + 1
  | .map entries => uptoBulkEntries entries + 1
  | .held _ => 1
def uptoBulkAll {H : Type} : List (DataW H) → Nat
  | [] => 0
  | d :: r => uptoBulk d + uptoBulkAll r
def uptoBulkEntries {H : Type} : List (Lit × DataW H) → Nat
  | [] => 0
  | x :: r => uptoBulkEntry x + uptoBulkEntries r
def uptoBulkEntry {H : Type} : Lit × DataW H → Nat
  | (.string bytes, d) => bytes.length + uptoBulk d + 1
  | (_, d) => uptoBulk d + 1
 end
def uptoSmall : (H : Type) → List (DataW H) → Bool := fun _ ds => decide (uptoBulkAll ds ≤ 1048576)
def OpenSpec.upto (s : _root_.Go.ChangeSpec) : _root_.Go.OpenSpec := { _root_.Go.OpenSpec.ofChange s with cond := some uptoSmall }

/-- 'laws.FnAllPaths', WHERE WHAT IT READS IS OF BULK AT MOST 1048576: true; the input reads as it did. -/
def fnAllPathsUptoRow : OpenClaim := { program := "yteneckdjdfnjoaa", sum := "23b7fe1d551ed3f8f7e35079669ed582fdf2df304334c1522b2fe77351a6daef", func := "loop.example/gradual/laws.FnAllPaths", spec := "fnAllPaths", unfollowed := true, recurses := true, apart := false, narrowed := true }
def FnAllPathsUptoSaid : Prop := fnAllPathsUptoRow.holds Try.pinned (OpenSpec.upto fnAllPathsSpec)

/-- 'laws.FnReplaceAt', WHERE WHAT IT READS IS OF BULK AT MOST 1048576: true; the input reads as it did. -/
def fnReplaceAtUptoRow : OpenClaim := { program := "yteneckdjdfnjoaa", sum := "23b7fe1d551ed3f8f7e35079669ed582fdf2df304334c1522b2fe77351a6daef", func := "loop.example/gradual/laws.FnReplaceAt", spec := "fnReplaceAt", unfollowed := true, recurses := true, apart := false, narrowed := true }
def FnReplaceAtUptoSaid : Prop := fnReplaceAtUptoRow.holds Try.pinned (OpenSpec.upto fnReplaceAtSpec)

/-- 'laws.FnCastPath', WHERE WHAT IT READS IS OF BULK AT MOST 1048576: true; the input reads as it did. -/
def fnCastPathUptoRow : OpenClaim := { program := "yteneckdjdfnjoaa", sum := "23b7fe1d551ed3f8f7e35079669ed582fdf2df304334c1522b2fe77351a6daef", func := "loop.example/gradual/laws.FnCastPath", spec := "fnCastPath", unfollowed := true, recurses := true, apart := false, narrowed := true }
def FnCastPathUptoSaid : Prop := fnCastPathUptoRow.holds Try.pinned (OpenSpec.upto fnCastPathSpec)

end Rows
end Go.Proofs.Yteneckdjdfnjoaa
