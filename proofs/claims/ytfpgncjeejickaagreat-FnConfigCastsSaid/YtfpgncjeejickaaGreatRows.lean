/-
  NARROWER THAN 'FOR EVERY INPUT', by the rows' own cells (each row's printed sentence says how): FnExactWorstConfig: loops · FnExactConfigCosts: loops.
  DERIVED. THE GIVEN ROWS OF THIS SEAT. 5 by the template 'for every input the law returns true; each argument reads behind the call as it read before'; 0 by the template 'total and deterministic' (their statements: YtfpgncjeejickaaGreatTotals.lean).
  GIVEN WITH THE SEED: the statements are not yours to turn. If you find one false, say at which input.
  Laid BY PROGRAM, IN A SANDBOX (cutbox-rows.mjs): the forced cells as the released guide's own fill.sh prints them over the translation de9f0ebddac97fce… (all of the seat's roots in one cut). By AI agents, Wed Nov 11 2026. No macro, syntax, notation, axiom, sorry.
-/
import Derived.Test.YtfpgncjeejickaaGreatChecked
import GoSem.Claim
import GoSem.ClaimJoined
import GoSem.ClaimMapViews
import Derived.JoinedTies
import Derived.KernelRfl
namespace Go.Proofs.YtfpgncjeejickaaGreat
/- THE CELL 'sum', in the pinned program and in every row, IS THE sha256 OF THE DUMP (.gsa) THAT YtfpgncjeejickaaGreatProg.lean LOADS. Nothing in Lean hashes anything: it is a label: what it is worth is what the hold of that sum in a sandbox is worth. -/
noncomputable def Tryz.pinned : Pinned := { name := "ytfpgncjeejickaagreat", sum := "de9f0ebddac97fcee11dd32d51c916a69ac4ff718ddd47a137a7637e5fcdcfb9", checked := Tryz.checked }
namespace Rows
def none {H : Type} : Left H := { results := [], args := [] }

/-- 'laws.FnBareSteps': WHATEVER THE INPUT: true; the input reads as it did. -/
def fnBareStepsSpec : ChangeSpec := { name := "fnBareSteps", fn := fun _ => fun
  | [d] => { results := [.lit (.bool true)], args := [d] }
  | _ => none }
def fnBareStepsRow : OpenClaim := { program := "ytfpgncjeejickaagreat", sum := "de9f0ebddac97fcee11dd32d51c916a69ac4ff718ddd47a137a7637e5fcdcfb9", func := "loop.example/gradual/laws.FnBareSteps", spec := "fnBareSteps", unfollowed := true, recurses := true, apart := false }
def FnBareStepsSaid : Prop := fnBareStepsRow.holds Tryz.pinned (OpenSpec.ofChange fnBareStepsSpec)

/-- ITS FALSE NEIGHBOUR: 'it returns false'. Refute it at one input. -/
def fnBareStepsWrong : ChangeSpec := { name := "fnBareSteps", fn := fun _ => fun
  | [d] => { results := [.lit (.bool false)], args := [d] }
  | _ => none }
def FnBareStepsWrongFalsely : Prop := fnBareStepsRow.holds Tryz.pinned (OpenSpec.ofChange fnBareStepsWrong)

/-- 'laws.FnExactWorstConfig': WHATEVER THE INPUT: true; the input reads as it did. -/
def fnExactWorstConfigSpec : ChangeSpec := { name := "fnExactWorstConfig", fn := fun _ => fun
  | [d1, d2] => { results := [.lit (.bool true)], args := [d1, d2] }
  | _ => none }
def fnExactWorstConfigRow : OpenClaim := { program := "ytfpgncjeejickaagreat", sum := "de9f0ebddac97fcee11dd32d51c916a69ac4ff718ddd47a137a7637e5fcdcfb9", func := "loop.example/gradual/laws.FnExactWorstConfig", spec := "fnExactWorstConfig", unfollowed := true, recurses := true, loops := true, apart := false }
def FnExactWorstConfigSaid : Prop := fnExactWorstConfigRow.holds Tryz.pinned (OpenSpec.ofChange fnExactWorstConfigSpec)

/-- ITS FALSE NEIGHBOUR: 'it returns false'. Refute it at one input. -/
def fnExactWorstConfigWrong : ChangeSpec := { name := "fnExactWorstConfig", fn := fun _ => fun
  | [d1, d2] => { results := [.lit (.bool false)], args := [d1, d2] }
  | _ => none }
def FnExactWorstConfigWrongFalsely : Prop := fnExactWorstConfigRow.holds Tryz.pinned (OpenSpec.ofChange fnExactWorstConfigWrong)

/-- 'laws.FnExactConfigCosts': WHATEVER THE INPUT: true; the input reads as it did. -/
def fnExactConfigCostsSpec : ChangeSpec := { name := "fnExactConfigCosts", fn := fun _ => fun
  | [d1, d2] => { results := [.lit (.bool true)], args := [d1, d2] }
  | _ => none }
def fnExactConfigCostsRow : OpenClaim := { program := "ytfpgncjeejickaagreat", sum := "de9f0ebddac97fcee11dd32d51c916a69ac4ff718ddd47a137a7637e5fcdcfb9", func := "loop.example/gradual/laws.FnExactConfigCosts", spec := "fnExactConfigCosts", unfollowed := true, recurses := true, loops := true, apart := false }
def FnExactConfigCostsSaid : Prop := fnExactConfigCostsRow.holds Tryz.pinned (OpenSpec.ofChange fnExactConfigCostsSpec)

/-- ITS FALSE NEIGHBOUR: 'it returns false'. Refute it at one input. -/
def fnExactConfigCostsWrong : ChangeSpec := { name := "fnExactConfigCosts", fn := fun _ => fun
  | [d1, d2] => { results := [.lit (.bool false)], args := [d1, d2] }
  | _ => none }
def FnExactConfigCostsWrongFalsely : Prop := fnExactConfigCostsRow.holds Tryz.pinned (OpenSpec.ofChange fnExactConfigCostsWrong)

/-- 'laws.FnConfigCasts': WHATEVER THE INPUT: true; the input reads as it did. -/
def fnConfigCastsSpec : ChangeSpec := { name := "fnConfigCasts", fn := fun _ => fun
  | [d] => { results := [.lit (.bool true)], args := [d] }
  | _ => none }
def fnConfigCastsRow : OpenClaim := { program := "ytfpgncjeejickaagreat", sum := "de9f0ebddac97fcee11dd32d51c916a69ac4ff718ddd47a137a7637e5fcdcfb9", func := "loop.example/gradual/laws.FnConfigCasts", spec := "fnConfigCasts", unfollowed := true, recurses := true, apart := false }
def FnConfigCastsSaid : Prop := fnConfigCastsRow.holds Tryz.pinned (OpenSpec.ofChange fnConfigCastsSpec)

/-- ITS FALSE NEIGHBOUR: 'it returns false'. Refute it at one input. -/
def fnConfigCastsWrong : ChangeSpec := { name := "fnConfigCasts", fn := fun _ => fun
  | [d] => { results := [.lit (.bool false)], args := [d] }
  | _ => none }
def FnConfigCastsWrongFalsely : Prop := fnConfigCastsRow.holds Tryz.pinned (OpenSpec.ofChange fnConfigCastsWrong)

/-- 'laws.FnConfigCosts': WHATEVER THE INPUT: true; the input reads as it did. -/
def fnConfigCostsSpec : ChangeSpec := { name := "fnConfigCosts", fn := fun _ => fun
  | [d] => { results := [.lit (.bool true)], args := [d] }
  | _ => none }
def fnConfigCostsRow : OpenClaim := { program := "ytfpgncjeejickaagreat", sum := "de9f0ebddac97fcee11dd32d51c916a69ac4ff718ddd47a137a7637e5fcdcfb9", func := "loop.example/gradual/laws.FnConfigCosts", spec := "fnConfigCosts", unfollowed := true, recurses := true, apart := false }
def FnConfigCostsSaid : Prop := fnConfigCostsRow.holds Tryz.pinned (OpenSpec.ofChange fnConfigCostsSpec)

/-- ITS FALSE NEIGHBOUR: 'it returns false'. Refute it at one input. -/
def fnConfigCostsWrong : ChangeSpec := { name := "fnConfigCosts", fn := fun _ => fun
  | [d] => { results := [.lit (.bool false)], args := [d] }
  | _ => none }
def FnConfigCostsWrongFalsely : Prop := fnConfigCostsRow.holds Tryz.pinned (OpenSpec.ofChange fnConfigCostsWrong)

/- THE SECOND FORM. 'bulk': how many values and letters a reading holds, each counted each time it is reached (what is shared counts as often as it is met; a slice's spare places count too). A statement '..UptoSaid' is the law's where the arguments, and the package variables that the reading takes, are together of bulk at most 1048576: NARROWER than '..Said'. Prove '..Said' where nothing that the law and all that it calls make is longer than what came in: it says more and counts as full. Else prove '..UptoSaid'. A law counts once. -/
mutual
def uptoBulk {H : Type} : DataW H → Nat
  | .lit (.string bytes) => bytes.length + 1
  | .lit _ => 1
  | .nil => 1
  | .ptr d => uptoBulk d + 1
  | .slice elems spare => uptoBulkAll elems + uptoBulkAll spare + 1
  | .agg parts => uptoBulkAll parts + 1
  | .iface _ d => uptoBulk d + 1
  | .map entries => uptoBulkEntries entries + 1
  | .held _ => 1
def uptoBulkAll {H : Type} : List (DataW H) → Nat
  | [] => 0
  | d :: r => uptoBulk d + uptoBulkAll r
def uptoBulkEntries {H : Type} : List (Lit × DataW H) → Nat
  | [] => 0
  | x :: r => uptoBulkEntry x + uptoBulkEntries r
def uptoBulkEntry {H : Type} : Lit × DataW H → Nat
  | (.string bytes, d) => bytes.length + uptoBulk d + 1
  | (_, d) => uptoBulk d + 1
 end
def uptoSmall : (H : Type) → List (DataW H) → Bool := fun _ ds => decide (uptoBulkAll ds ≤ 1048576)
def OpenSpec.upto (s : _root_.Go.ChangeSpec) : _root_.Go.OpenSpec := { _root_.Go.OpenSpec.ofChange s with cond := some uptoSmall }

/-- 'laws.FnBareSteps', WHERE WHAT IT READS IS OF BULK AT MOST 1048576: true; the input reads as it did. -/
def fnBareStepsUptoRow : OpenClaim := { program := "ytfpgncjeejickaagreat", sum := "de9f0ebddac97fcee11dd32d51c916a69ac4ff718ddd47a137a7637e5fcdcfb9", func := "loop.example/gradual/laws.FnBareSteps", spec := "fnBareSteps", unfollowed := true, recurses := true, apart := false, narrowed := true }
def FnBareStepsUptoSaid : Prop := fnBareStepsUptoRow.holds Tryz.pinned (OpenSpec.upto fnBareStepsSpec)

/-- 'laws.FnExactWorstConfig', WHERE WHAT IT READS IS OF BULK AT MOST 1048576: true; the input reads as it did. -/
def fnExactWorstConfigUptoRow : OpenClaim := { program := "ytfpgncjeejickaagreat", sum := "de9f0ebddac97fcee11dd32d51c916a69ac4ff718ddd47a137a7637e5fcdcfb9", func := "loop.example/gradual/laws.FnExactWorstConfig", spec := "fnExactWorstConfig", unfollowed := true, recurses := true, loops := true, apart := false, narrowed := true }
def FnExactWorstConfigUptoSaid : Prop := fnExactWorstConfigUptoRow.holds Tryz.pinned (OpenSpec.upto fnExactWorstConfigSpec)

/-- 'laws.FnExactConfigCosts', WHERE WHAT IT READS IS OF BULK AT MOST 1048576: true; the input reads as it did. -/
def fnExactConfigCostsUptoRow : OpenClaim := { program := "ytfpgncjeejickaagreat", sum := "de9f0ebddac97fcee11dd32d51c916a69ac4ff718ddd47a137a7637e5fcdcfb9", func := "loop.example/gradual/laws.FnExactConfigCosts", spec := "fnExactConfigCosts", unfollowed := true, recurses := true, loops := true, apart := false, narrowed := true }
def FnExactConfigCostsUptoSaid : Prop := fnExactConfigCostsUptoRow.holds Tryz.pinned (OpenSpec.upto fnExactConfigCostsSpec)

/-- 'laws.FnConfigCasts', WHERE WHAT IT READS IS OF BULK AT MOST 1048576: true; the input reads as it did. -/
def fnConfigCastsUptoRow : OpenClaim := { program := "ytfpgncjeejickaagreat", sum := "de9f0ebddac97fcee11dd32d51c916a69ac4ff718ddd47a137a7637e5fcdcfb9", func := "loop.example/gradual/laws.FnConfigCasts", spec := "fnConfigCasts", unfollowed := true, recurses := true, apart := false, narrowed := true }
def FnConfigCastsUptoSaid : Prop := fnConfigCastsUptoRow.holds Tryz.pinned (OpenSpec.upto fnConfigCastsSpec)

/-- 'laws.FnConfigCosts', WHERE WHAT IT READS IS OF BULK AT MOST 1048576: true; the input reads as it did. -/
def fnConfigCostsUptoRow : OpenClaim := { program := "ytfpgncjeejickaagreat", sum := "de9f0ebddac97fcee11dd32d51c916a69ac4ff718ddd47a137a7637e5fcdcfb9", func := "loop.example/gradual/laws.FnConfigCosts", spec := "fnConfigCosts", unfollowed := true, recurses := true, apart := false, narrowed := true }
def FnConfigCostsUptoSaid : Prop := fnConfigCostsUptoRow.holds Tryz.pinned (OpenSpec.upto fnConfigCostsSpec)

end Rows
end Go.Proofs.YtfpgncjeejickaaGreat
