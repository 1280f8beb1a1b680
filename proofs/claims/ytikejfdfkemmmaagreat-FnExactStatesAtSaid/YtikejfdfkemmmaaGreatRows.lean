/-
  No cell of these rows narrows 'for every input' (looked for: loops, veiled, ifaces, maps, wideKeys, modest, calm, conditions, laid).
  DERIVED. THE GIVEN ROWS OF THIS SEAT. 6 by the template 'for every input the law returns true; each argument reads behind the call as it read before'; 0 by the template 'total and deterministic' (their statements: YtikejfdfkemmmaaGreatTotals.lean).
  GIVEN WITH THE SEED: the statements are not yours to turn. If you find one false, say at which input.
  Laid BY PROGRAM, IN A SANDBOX (cutbox-rows.mjs): the forced cells as the released guide's own fill.sh prints them over the translation ab25b4c191ba55f8… (all of the seat's roots in one cut). By AI agents, Wed Nov 11 2026. No macro, syntax, notation, axiom, sorry.
-/
import Derived.Test.YtikejfdfkemmmaaGreatChecked
import GoSem.Claim
import GoSem.ClaimJoined
import GoSem.ClaimMapViews
import Derived.JoinedTies
import Derived.KernelRfl
namespace Go.Proofs.YtikejfdfkemmmaaGreat
/- THE CELL 'sum', in the pinned program and in every row, IS THE sha256 OF THE DUMP (.gsa) THAT YtikejfdfkemmmaaGreatProg.lean LOADS. Nothing in Lean hashes anything: it is a label: what it is worth is what the hold of that sum in a sandbox is worth. -/
noncomputable def Tryz.pinned : Pinned := { name := "ytikejfdfkemmmaagreat", sum := "ab25b4c191ba55f84aef4c5227bfaee1d31f3d535b44b39d1f0c4dc4feca8784", checked := Tryz.checked }
namespace Rows
def none {H : Type} : Left H := { results := [], args := [] }

/-- 'laws.FnExactConditionsAt': WHATEVER THE INPUT: true; the input reads as it did. -/
def fnExactConditionsAtSpec : ChangeSpec := { name := "fnExactConditionsAt", fn := fun _ => fun
  | [d1, d2] => { results := [.lit (.bool true)], args := [d1, d2] }
  | _ => none }
def fnExactConditionsAtRow : OpenClaim := { program := "ytikejfdfkemmmaagreat", sum := "ab25b4c191ba55f84aef4c5227bfaee1d31f3d535b44b39d1f0c4dc4feca8784", func := "loop.example/g01105/laws.FnExactConditionsAt", spec := "fnExactConditionsAt", unfollowed := true, recurses := true, apart := false }
def FnExactConditionsAtSaid : Prop := fnExactConditionsAtRow.holds Tryz.pinned (OpenSpec.ofChange fnExactConditionsAtSpec)

/-- ITS FALSE NEIGHBOUR: 'it returns false'. Refute it at one input. -/
def fnExactConditionsAtWrong : ChangeSpec := { name := "fnExactConditionsAt", fn := fun _ => fun
  | [d1, d2] => { results := [.lit (.bool false)], args := [d1, d2] }
  | _ => none }
def FnExactConditionsAtWrongFalsely : Prop := fnExactConditionsAtRow.holds Tryz.pinned (OpenSpec.ofChange fnExactConditionsAtWrong)

/-- 'laws.FnExactPathsOfCode': WHATEVER THE INPUT: true; the input reads as it did. -/
def fnExactPathsOfCodeSpec : ChangeSpec := { name := "fnExactPathsOfCode", fn := fun _ => fun
  | [d] => { results := [.lit (.bool true)], args := [d] }
  | _ => none }
def fnExactPathsOfCodeRow : OpenClaim := { program := "ytikejfdfkemmmaagreat", sum := "ab25b4c191ba55f84aef4c5227bfaee1d31f3d535b44b39d1f0c4dc4feca8784", func := "loop.example/g01105/laws.FnExactPathsOfCode", spec := "fnExactPathsOfCode", unfollowed := true, recurses := true, apart := false }
def FnExactPathsOfCodeSaid : Prop := fnExactPathsOfCodeRow.holds Tryz.pinned (OpenSpec.ofChange fnExactPathsOfCodeSpec)

/-- ITS FALSE NEIGHBOUR: 'it returns false'. Refute it at one input. -/
def fnExactPathsOfCodeWrong : ChangeSpec := { name := "fnExactPathsOfCode", fn := fun _ => fun
  | [d] => { results := [.lit (.bool false)], args := [d] }
  | _ => none }
def FnExactPathsOfCodeWrongFalsely : Prop := fnExactPathsOfCodeRow.holds Tryz.pinned (OpenSpec.ofChange fnExactPathsOfCodeWrong)

/-- 'laws.FnExactConditionsOfCode': WHATEVER THE INPUT: true; the input reads as it did. -/
def fnExactConditionsOfCodeSpec : ChangeSpec := { name := "fnExactConditionsOfCode", fn := fun _ => fun
  | [d] => { results := [.lit (.bool true)], args := [d] }
  | _ => none }
def fnExactConditionsOfCodeRow : OpenClaim := { program := "ytikejfdfkemmmaagreat", sum := "ab25b4c191ba55f84aef4c5227bfaee1d31f3d535b44b39d1f0c4dc4feca8784", func := "loop.example/g01105/laws.FnExactConditionsOfCode", spec := "fnExactConditionsOfCode", unfollowed := true, recurses := true, apart := false }
def FnExactConditionsOfCodeSaid : Prop := fnExactConditionsOfCodeRow.holds Tryz.pinned (OpenSpec.ofChange fnExactConditionsOfCodeSpec)

/-- ITS FALSE NEIGHBOUR: 'it returns false'. Refute it at one input. -/
def fnExactConditionsOfCodeWrong : ChangeSpec := { name := "fnExactConditionsOfCode", fn := fun _ => fun
  | [d] => { results := [.lit (.bool false)], args := [d] }
  | _ => none }
def FnExactConditionsOfCodeWrongFalsely : Prop := fnExactConditionsOfCodeRow.holds Tryz.pinned (OpenSpec.ofChange fnExactConditionsOfCodeWrong)

/-- 'laws.FnExactAllows': WHATEVER THE INPUT: true; the input reads as it did. -/
def fnExactAllowsSpec : ChangeSpec := { name := "fnExactAllows", fn := fun _ => fun
  | [d1, d2] => { results := [.lit (.bool true)], args := [d1, d2] }
  | _ => none }
def fnExactAllowsRow : OpenClaim := { program := "ytikejfdfkemmmaagreat", sum := "ab25b4c191ba55f84aef4c5227bfaee1d31f3d535b44b39d1f0c4dc4feca8784", func := "loop.example/g01105/laws.FnExactAllows", spec := "fnExactAllows", unfollowed := true, recurses := true, apart := false }
def FnExactAllowsSaid : Prop := fnExactAllowsRow.holds Tryz.pinned (OpenSpec.ofChange fnExactAllowsSpec)

/-- ITS FALSE NEIGHBOUR: 'it returns false'. Refute it at one input. -/
def fnExactAllowsWrong : ChangeSpec := { name := "fnExactAllows", fn := fun _ => fun
  | [d1, d2] => { results := [.lit (.bool false)], args := [d1, d2] }
  | _ => none }
def FnExactAllowsWrongFalsely : Prop := fnExactAllowsRow.holds Tryz.pinned (OpenSpec.ofChange fnExactAllowsWrong)

/-- 'laws.FnExactFirstOffence': WHATEVER THE INPUT: true; the input reads as it did. -/
def fnExactFirstOffenceSpec : ChangeSpec := { name := "fnExactFirstOffence", fn := fun _ => fun
  | [d1, d2] => { results := [.lit (.bool true)], args := [d1, d2] }
  | _ => none }
def fnExactFirstOffenceRow : OpenClaim := { program := "ytikejfdfkemmmaagreat", sum := "ab25b4c191ba55f84aef4c5227bfaee1d31f3d535b44b39d1f0c4dc4feca8784", func := "loop.example/g01105/laws.FnExactFirstOffence", spec := "fnExactFirstOffence", unfollowed := true, recurses := true, apart := false }
def FnExactFirstOffenceSaid : Prop := fnExactFirstOffenceRow.holds Tryz.pinned (OpenSpec.ofChange fnExactFirstOffenceSpec)

/-- ITS FALSE NEIGHBOUR: 'it returns false'. Refute it at one input. -/
def fnExactFirstOffenceWrong : ChangeSpec := { name := "fnExactFirstOffence", fn := fun _ => fun
  | [d1, d2] => { results := [.lit (.bool false)], args := [d1, d2] }
  | _ => none }
def FnExactFirstOffenceWrongFalsely : Prop := fnExactFirstOffenceRow.holds Tryz.pinned (OpenSpec.ofChange fnExactFirstOffenceWrong)

/-- 'laws.FnExactStatesAt': WHATEVER THE INPUT: true; the input reads as it did. -/
def fnExactStatesAtSpec : ChangeSpec := { name := "fnExactStatesAt", fn := fun _ => fun
  | [d1, d2] => { results := [.lit (.bool true)], args := [d1, d2] }
  | _ => none }
def fnExactStatesAtRow : OpenClaim := { program := "ytikejfdfkemmmaagreat", sum := "ab25b4c191ba55f84aef4c5227bfaee1d31f3d535b44b39d1f0c4dc4feca8784", func := "loop.example/g01105/laws.FnExactStatesAt", spec := "fnExactStatesAt", unfollowed := true, recurses := true, apart := false }
def FnExactStatesAtSaid : Prop := fnExactStatesAtRow.holds Tryz.pinned (OpenSpec.ofChange fnExactStatesAtSpec)

/-- ITS FALSE NEIGHBOUR: 'it returns false'. Refute it at one input. -/
def fnExactStatesAtWrong : ChangeSpec := { name := "fnExactStatesAt", fn := fun _ => fun
  | [d1, d2] => { results := [.lit (.bool false)], args := [d1, d2] }
  | _ => none }
def FnExactStatesAtWrongFalsely : Prop := fnExactStatesAtRow.holds Tryz.pinned (OpenSpec.ofChange fnExactStatesAtWrong)

/- THE SECOND FORM. 'bulk': how many values and letters a reading holds, each counted each time it is reached (what is shared counts as often as it is met; a slice's spare places count too). A statement '..UptoSaid' is the law's where the arguments, and the package variables that the reading takes, are together of bulk at most 1048576: NARROWER than '..Said'. Prove '..Said' where nothing that the law and all that it calls make is longer than what came in: it says more and counts as full. Else prove '..UptoSaid'. A law counts once. -/
mutual
def uptoBulk {H : Type} : DataW H → Nat
  | .lit (.string bytes) => bytes.length + 1
  | .lit _ => 1
  | .nil => 1
  | .ptr d => uptoBulk d + 1
  | .slice elems spare => uptoBulkAll elems + uptoBulkAll spare + 1
  | .agg parts => uptoBulkAll parts + 1
  | .iface _ d => uptoBulk d + 1
  | .map entries => uptoBulkEntries entries + 1
  | .held _ => 1
def uptoBulkAll {H : Type} : List (DataW H) → Nat
  | [] => 0
  | d :: r => uptoBulk d + uptoBulkAll r
def uptoBulkEntries {H : Type} : List (Lit × DataW H) → Nat
  | [] => 0
  | x :: r => uptoBulkEntry x + uptoBulkEntries r
def uptoBulkEntry {H : Type} : Lit × DataW H → Nat
  | (.string bytes, d) => bytes.length + uptoBulk d + 1
  | (_, d) => uptoBulk d + 1
 end
def uptoSmall : (H : Type) → List (DataW H) → Bool := fun _ ds => decide (uptoBulkAll ds ≤ 1048576)
def OpenSpec.upto (s : _root_.Go.ChangeSpec) : _root_.Go.OpenSpec := { _root_.Go.OpenSpec.ofChange s with cond := some uptoSmall }

/-- 'laws.FnExactConditionsAt', WHERE WHAT IT READS IS OF BULK AT MOST 1048576: true; the input reads as it did. -/
def fnExactConditionsAtUptoRow : OpenClaim := { program := "ytikejfdfkemmmaagreat", sum := "ab25b4c191ba55f84aef4c5227bfaee1d31f3d535b44b39d1f0c4dc4feca8784", func := "loop.example/g01105/laws.FnExactConditionsAt", spec := "fnExactConditionsAt", unfollowed := true, recurses := true, apart := false, narrowed := true }
def FnExactConditionsAtUptoSaid : Prop := fnExactConditionsAtUptoRow.holds Tryz.pinned (OpenSpec.upto fnExactConditionsAtSpec)

/-- 'laws.FnExactPathsOfCode', WHERE WHAT IT READS IS OF BULK AT MOST 1048576: true; the input reads as it did. -/
def fnExactPathsOfCodeUptoRow : OpenClaim := { program := "ytikejfdfkemmmaagreat", sum := "ab25b4c191ba55f84aef4c5227bfaee1d31f3d535b44b39d1f0c4dc4feca8784", func := "loop.example/g01105/laws.FnExactPathsOfCode", spec := "fnExactPathsOfCode", unfollowed := true, recurses := true, apart := false, narrowed := true }
def FnExactPathsOfCodeUptoSaid : Prop := fnExactPathsOfCodeUptoRow.holds Tryz.pinned (OpenSpec.upto fnExactPathsOfCodeSpec)

/-- 'laws.FnExactConditionsOfCode', WHERE WHAT IT READS IS OF BULK AT MOST 1048576: true; the input reads as it did. -/
def fnExactConditionsOfCodeUptoRow : OpenClaim := { program := "ytikejfdfkemmmaagreat", sum := "ab25b4c191ba55f84aef4c5227bfaee1d31f3d535b44b39d1f0c4dc4feca8784", func := "loop.example/g01105/laws.FnExactConditionsOfCode", spec := "fnExactConditionsOfCode", unfollowed := true, recurses := true, apart := false, narrowed := true }
def FnExactConditionsOfCodeUptoSaid : Prop := fnExactConditionsOfCodeUptoRow.holds Tryz.pinned (OpenSpec.upto fnExactConditionsOfCodeSpec)

/-- 'laws.FnExactAllows', WHERE WHAT IT READS IS OF BULK AT MOST 1048576: true; the input reads as it did. -/
def fnExactAllowsUptoRow : OpenClaim := { program := "ytikejfdfkemmmaagreat", sum := "ab25b4c191ba55f84aef4c5227bfaee1d31f3d535b44b39d1f0c4dc4feca8784", func := "loop.example/g01105/laws.FnExactAllows", spec := "fnExactAllows", unfollowed := true, recurses := true, apart := false, narrowed := true }
def FnExactAllowsUptoSaid : Prop := fnExactAllowsUptoRow.holds Tryz.pinned (OpenSpec.upto fnExactAllowsSpec)

/-- 'laws.FnExactFirstOffence', WHERE WHAT IT READS IS OF BULK AT MOST 1048576: true; the input reads as it did. -/
def fnExactFirstOffenceUptoRow : OpenClaim := { program := "ytikejfdfkemmmaagreat", sum := "ab25b4c191ba55f84aef4c5227bfaee1d31f3d535b44b39d1f0c4dc4feca8784", func := "loop.example/g01105/laws.FnExactFirstOffence", spec := "fnExactFirstOffence", unfollowed := true, recurses := true, apart := false, narrowed := true }
def FnExactFirstOffenceUptoSaid : Prop := fnExactFirstOffenceUptoRow.holds Tryz.pinned (OpenSpec.upto fnExactFirstOffenceSpec)

/-- 'laws.FnExactStatesAt', WHERE WHAT IT READS IS OF BULK AT MOST 1048576: true; the input reads as it did. -/
def fnExactStatesAtUptoRow : OpenClaim := { program := "ytikejfdfkemmmaagreat", sum := "ab25b4c191ba55f84aef4c5227bfaee1d31f3d535b44b39d1f0c4dc4feca8784", func := "loop.example/g01105/laws.FnExactStatesAt", spec := "fnExactStatesAt", unfollowed := true, recurses := true, apart := false, narrowed := true }
def FnExactStatesAtUptoSaid : Prop := fnExactStatesAtUptoRow.holds Tryz.pinned (OpenSpec.upto fnExactStatesAtSpec)

end Rows
end Go.Proofs.YtikejfdfkemmmaaGreat
