/-
  No cell of these rows narrows 'for every input' (looked for: loops, veiled, ifaces, maps, wideKeys, modest, calm, conditions, laid).
  DERIVED. THE GIVEN ROWS OF THIS SEAT. 2 by the template 'for every input the law returns true; each argument reads behind the call as it read before'; 0 by the template 'total and deterministic' (their statements: YtgclbnfdlddpnaaGreatTotals.lean).
  GIVEN WITH THE SEED: the statements are not yours to turn. If you find one false, say at which input.
  Laid BY PROGRAM, IN A SANDBOX (cutbox-rows.mjs): the forced cells as the released guide's own fill.sh prints them over the translation 9c75461d0e57c7af… (all of the seat's roots in one cut). By AI agents, Wed Nov 11 2026. No macro, syntax, notation, axiom, sorry.
-/
import Derived.Test.YtgclbnfdlddpnaaGreatChecked
import GoSem.Claim
import GoSem.ClaimJoined
import GoSem.ClaimMapViews
import Derived.JoinedTies
import Derived.KernelRfl
namespace Go.Proofs.YtgclbnfdlddpnaaGreat
/- THE CELL 'sum', in the pinned program and in every row, IS THE sha256 OF THE DUMP (.gsa) THAT YtgclbnfdlddpnaaGreatProg.lean LOADS. Nothing in Lean hashes anything: it is a label: what it is worth is what the hold of that sum in a sandbox is worth. -/
noncomputable def Tryz.pinned : Pinned := { name := "ytgclbnfdlddpnaagreat", sum := "9c75461d0e57c7af4398c4009bb32f071d9cb071d2c7e4f1ae1ff5f119afedf3", checked := Tryz.checked }
namespace Rows
def none {H : Type} : Left H := { results := [], args := [] }

/-- 'laws.FnReplaceTyped': WHATEVER THE INPUT: true; the input reads as it did. -/
def fnReplaceTypedSpec : ChangeSpec := { name := "fnReplaceTyped", fn := fun _ => fun
  | [d] => { results := [.lit (.bool true)], args := [d] }
  | _ => none }
def fnReplaceTypedRow : OpenClaim := { program := "ytgclbnfdlddpnaagreat", sum := "9c75461d0e57c7af4398c4009bb32f071d9cb071d2c7e4f1ae1ff5f119afedf3", func := "loop.example/gradual/laws.FnReplaceTyped", spec := "fnReplaceTyped", unfollowed := true, recurses := true, apart := false }
def FnReplaceTypedSaid : Prop := fnReplaceTypedRow.holds Tryz.pinned (OpenSpec.ofChange fnReplaceTypedSpec)

/-- ITS FALSE NEIGHBOUR: 'it returns false'. Refute it at one input. -/
def fnReplaceTypedWrong : ChangeSpec := { name := "fnReplaceTyped", fn := fun _ => fun
  | [d] => { results := [.lit (.bool false)], args := [d] }
  | _ => none }
def FnReplaceTypedWrongFalsely : Prop := fnReplaceTypedRow.holds Tryz.pinned (OpenSpec.ofChange fnReplaceTypedWrong)

/-- 'laws.FnBareSteps': WHATEVER THE INPUT: true; the input reads as it did. -/
def fnBareStepsSpec : ChangeSpec := { name := "fnBareSteps", fn := fun _ => fun
  | [d] => { results := [.lit (.bool true)], args := [d] }
  | _ => none }
def fnBareStepsRow : OpenClaim := { program := "ytgclbnfdlddpnaagreat", sum := "9c75461d0e57c7af4398c4009bb32f071d9cb071d2c7e4f1ae1ff5f119afedf3", func := "loop.example/gradual/laws.FnBareSteps", spec := "fnBareSteps", unfollowed := true, recurses := true, apart := false }
def FnBareStepsSaid : Prop := fnBareStepsRow.holds Tryz.pinned (OpenSpec.ofChange fnBareStepsSpec)

/-- ITS FALSE NEIGHBOUR: 'it returns false'. Refute it at one input. -/
def fnBareStepsWrong : ChangeSpec := { name := "fnBareSteps", fn := fun _ => fun
  | [d] => { results := [.lit (.bool false)], args := [d] }
  | _ => none }
def FnBareStepsWrongFalsely : Prop := fnBareStepsRow.holds Tryz.pinned (OpenSpec.ofChange fnBareStepsWrong)

/- THE SECOND FORM. 'bulk': how many values and letters a reading holds, each counted each time it is reached (what is shared counts as often as it is met; a slice's spare places count too). A statement '..UptoSaid' is the law's where the arguments, and the package variables that the reading takes, are together of bulk at most 1048576: NARROWER than '..Said'. Prove '..Said' where nothing that the law and all that it calls make is longer than what came in: it says more and counts as full. Else prove '..UptoSaid'. A law counts once. -/
mutual
def uptoBulk {H : Type} : DataW H → Nat
  | .lit (.string bytes) => bytes.length + 1
  | .lit _ => 1
  | .nil => 1
  | .ptr d => uptoBulk d + 1
  | .slice elems spare => uptoBulkAll elems + uptoBulkAll spare + 1
  | .agg parts => uptoBulkAll parts + 1
  | .iface _ d => uptoBulk d + 1
  | .map entries => uptoBulkEntries entries + 1
  | .held _ => 1
def uptoBulkAll {H : Type} : List (DataW H) → Nat
  | [] => 0
  | d :: r => uptoBulk d + uptoBulkAll r
def uptoBulkEntries {H : Type} : List (Lit × DataW H) → Nat
  | [] => 0
  | x :: r => uptoBulkEntry x + uptoBulkEntries r
def uptoBulkEntry {H : Type} : Lit × DataW H → Nat
  | (.string bytes, d) => bytes.length + uptoBulk d + 1
  | (_, d) => uptoBulk d + 1
 end
def uptoSmall : (H : Type) → List (DataW H) → Bool := fun _ ds => decide (uptoBulkAll ds ≤ 1048576)
def OpenSpec.upto (s : _root_.Go.ChangeSpec) : _root_.Go.OpenSpec := { _root_.Go.OpenSpec.ofChange s with cond := some uptoSmall }

/-- 'laws.FnReplaceTyped', WHERE WHAT IT READS IS OF BULK AT MOST 1048576: true; the input reads as it did. -/
def fnReplaceTypedUptoRow : OpenClaim := { program := "ytgclbnfdlddpnaagreat", sum := "9c75461d0e57c7af4398c4009bb32f071d9cb071d2c7e4f1ae1ff5f119afedf3", func := "loop.example/gradual/laws.FnReplaceTyped", spec := "fnReplaceTyped", unfollowed := true, recurses := true, apart := false, narrowed := true }
def FnReplaceTypedUptoSaid : Prop := fnReplaceTypedUptoRow.holds Tryz.pinned (OpenSpec.upto fnReplaceTypedSpec)

/-- 'laws.FnBareSteps', WHERE WHAT IT READS IS OF BULK AT MOST 1048576: true; the input reads as it did. -/
def fnBareStepsUptoRow : OpenClaim := { program := "ytgclbnfdlddpnaagreat", sum := "9c75461d0e57c7af4398c4009bb32f071d9cb071d2c7e4f1ae1ff5f119afedf3", func := "loop.example/gradual/laws.FnBareSteps", spec := "fnBareSteps", unfollowed := true, recurses := true, apart := false, narrowed := true }
def FnBareStepsUptoSaid : Prop := fnBareStepsUptoRow.holds Tryz.pinned (OpenSpec.upto fnBareStepsSpec)

end Rows
end Go.Proofs.YtgclbnfdlddpnaaGreat
