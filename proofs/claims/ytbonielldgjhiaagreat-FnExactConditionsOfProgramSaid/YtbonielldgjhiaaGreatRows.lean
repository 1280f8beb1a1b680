/-
  No cell of these rows narrows 'for every input' (looked for: loops, veiled, ifaces, maps, wideKeys, modest, calm, conditions, laid).
  DERIVED. THE GIVEN ROWS OF THIS SEAT. 4 by the template 'for every input the law returns true; each argument reads behind the call as it read before'; 0 by the template 'total and deterministic' (their statements: YtbonielldgjhiaaGreatTotals.lean).
  GIVEN WITH THE SEED: the statements are not yours to turn. If you find one false, say at which input.
  Laid BY PROGRAM, IN A SANDBOX (cutbox-rows.mjs): the forced cells as the released guide's own fill.sh prints them over the translation 0908ea995a00ae68… (all of the seat's roots in one cut). By AI agents, Wed Nov 11 2026. No macro, syntax, notation, axiom, sorry.
-/
import Derived.Test.YtbonielldgjhiaaGreatChecked
import GoSem.Claim
import GoSem.ClaimJoined
import GoSem.ClaimMapViews
import Derived.JoinedTies
import Derived.KernelRfl
namespace Go.Proofs.YtbonielldgjhiaaGreat
/- THE CELL 'sum', in the pinned program and in every row, IS THE sha256 OF THE DUMP (.gsa) THAT YtbonielldgjhiaaGreatProg.lean LOADS. Nothing in Lean hashes anything: it is a label: what it is worth is what the hold of that sum in a sandbox is worth. -/
noncomputable def Tryz.pinned : Pinned := { name := "ytbonielldgjhiaagreat", sum := "0908ea995a00ae6823f06ae0e93229df307a2b20cf2a46315e09a4cb9cb651ca", checked := Tryz.checked }
namespace Rows
def none {H : Type} : Left H := { results := [], args := [] }

/-- 'laws.FnExactPathsFrom': WHATEVER THE INPUT: true; the input reads as it did. -/
def fnExactPathsFromSpec : ChangeSpec := { name := "fnExactPathsFrom", fn := fun _ => fun
  | [d1, d2] => { results := [.lit (.bool true)], args := [d1, d2] }
  | _ => none }
def fnExactPathsFromRow : OpenClaim := { program := "ytbonielldgjhiaagreat", sum := "0908ea995a00ae6823f06ae0e93229df307a2b20cf2a46315e09a4cb9cb651ca", func := "loop.example/g01105/laws.FnExactPathsFrom", spec := "fnExactPathsFrom", unfollowed := true, recurses := true, apart := false }
def FnExactPathsFromSaid : Prop := fnExactPathsFromRow.holds Tryz.pinned (OpenSpec.ofChange fnExactPathsFromSpec)

/-- ITS FALSE NEIGHBOUR: 'it returns false'. Refute it at one input. -/
def fnExactPathsFromWrong : ChangeSpec := { name := "fnExactPathsFrom", fn := fun _ => fun
  | [d1, d2] => { results := [.lit (.bool false)], args := [d1, d2] }
  | _ => none }
def FnExactPathsFromWrongFalsely : Prop := fnExactPathsFromRow.holds Tryz.pinned (OpenSpec.ofChange fnExactPathsFromWrong)

/-- 'laws.FnExactPathsOfProgram': WHATEVER THE INPUT: true; the input reads as it did. -/
def fnExactPathsOfProgramSpec : ChangeSpec := { name := "fnExactPathsOfProgram", fn := fun _ => fun
  | [d] => { results := [.lit (.bool true)], args := [d] }
  | _ => none }
def fnExactPathsOfProgramRow : OpenClaim := { program := "ytbonielldgjhiaagreat", sum := "0908ea995a00ae6823f06ae0e93229df307a2b20cf2a46315e09a4cb9cb651ca", func := "loop.example/g01105/laws.FnExactPathsOfProgram", spec := "fnExactPathsOfProgram", unfollowed := true, recurses := true, apart := false }
def FnExactPathsOfProgramSaid : Prop := fnExactPathsOfProgramRow.holds Tryz.pinned (OpenSpec.ofChange fnExactPathsOfProgramSpec)

/-- ITS FALSE NEIGHBOUR: 'it returns false'. Refute it at one input. -/
def fnExactPathsOfProgramWrong : ChangeSpec := { name := "fnExactPathsOfProgram", fn := fun _ => fun
  | [d] => { results := [.lit (.bool false)], args := [d] }
  | _ => none }
def FnExactPathsOfProgramWrongFalsely : Prop := fnExactPathsOfProgramRow.holds Tryz.pinned (OpenSpec.ofChange fnExactPathsOfProgramWrong)

/-- 'laws.FnExactConditionsFrom': WHATEVER THE INPUT: true; the input reads as it did. -/
def fnExactConditionsFromSpec : ChangeSpec := { name := "fnExactConditionsFrom", fn := fun _ => fun
  | [d1, d2] => { results := [.lit (.bool true)], args := [d1, d2] }
  | _ => none }
def fnExactConditionsFromRow : OpenClaim := { program := "ytbonielldgjhiaagreat", sum := "0908ea995a00ae6823f06ae0e93229df307a2b20cf2a46315e09a4cb9cb651ca", func := "loop.example/g01105/laws.FnExactConditionsFrom", spec := "fnExactConditionsFrom", unfollowed := true, recurses := true, apart := false }
def FnExactConditionsFromSaid : Prop := fnExactConditionsFromRow.holds Tryz.pinned (OpenSpec.ofChange fnExactConditionsFromSpec)

/-- ITS FALSE NEIGHBOUR: 'it returns false'. Refute it at one input. -/
def fnExactConditionsFromWrong : ChangeSpec := { name := "fnExactConditionsFrom", fn := fun _ => fun
  | [d1, d2] => { results := [.lit (.bool false)], args := [d1, d2] }
  | _ => none }
def FnExactConditionsFromWrongFalsely : Prop := fnExactConditionsFromRow.holds Tryz.pinned (OpenSpec.ofChange fnExactConditionsFromWrong)

/-- 'laws.FnExactConditionsOfProgram': WHATEVER THE INPUT: true; the input reads as it did. -/
def fnExactConditionsOfProgramSpec : ChangeSpec := { name := "fnExactConditionsOfProgram", fn := fun _ => fun
  | [d] => { results := [.lit (.bool true)], args := [d] }
  | _ => none }
def fnExactConditionsOfProgramRow : OpenClaim := { program := "ytbonielldgjhiaagreat", sum := "0908ea995a00ae6823f06ae0e93229df307a2b20cf2a46315e09a4cb9cb651ca", func := "loop.example/g01105/laws.FnExactConditionsOfProgram", spec := "fnExactConditionsOfProgram", unfollowed := true, recurses := true, apart := false }
def FnExactConditionsOfProgramSaid : Prop := fnExactConditionsOfProgramRow.holds Tryz.pinned (OpenSpec.ofChange fnExactConditionsOfProgramSpec)

/-- ITS FALSE NEIGHBOUR: 'it returns false'. Refute it at one input. -/
def fnExactConditionsOfProgramWrong : ChangeSpec := { name := "fnExactConditionsOfProgram", fn := fun _ => fun
  | [d] => { results := [.lit (.bool false)], args := [d] }
  | _ => none }
def FnExactConditionsOfProgramWrongFalsely : Prop := fnExactConditionsOfProgramRow.holds Tryz.pinned (OpenSpec.ofChange fnExactConditionsOfProgramWrong)

/- THE SECOND FORM. 'bulk': how many values and letters a reading holds, each counted each time it is reached (what is shared counts as often as it is met; a slice's spare places count too). A statement '..UptoSaid' is the law's where the arguments, and the package variables that the reading takes, are together of bulk at most 1048576: NARROWER than '..Said'. Prove '..Said' where nothing that the law and all that it calls make is longer than what came in: it says more and counts as full. Else prove '..UptoSaid'. A law counts once. -/
mutual
def uptoBulk {H : Type} : DataW H → Nat
  | .lit (.string bytes) => bytes.length + 1
  | .lit _ => 1
  | .nil => 1
  | .ptr d => uptoBulk d + 1
  | .slice elems spare => uptoBulkAll elems + uptoBulkAll spare + 1
  | .agg parts => uptoBulkAll parts + 1
  | .iface _ d => uptoBulk d + 1
  | .map entries => uptoBulkEntries entries + 1
  | .held _ => 1
def uptoBulkAll {H : Type} : List (DataW H) → Nat
  | [] => 0
  | d :: r => uptoBulk d + uptoBulkAll r
def uptoBulkEntries {H : Type} : List (Lit × DataW H) → Nat
  | [] => 0
  | x :: r => uptoBulkEntry x + uptoBulkEntries r
def uptoBulkEntry {H : Type} : Lit × DataW H → Nat
  | (.string bytes, d) => bytes.length + uptoBulk d + 1
  | (_, d) => uptoBulk d + 1
 end
def uptoSmall : (H : Type) → List (DataW H) → Bool := fun _ ds => decide (uptoBulkAll ds ≤ 1048576)
def OpenSpec.upto (s : _root_.Go.ChangeSpec) : _root_.Go.OpenSpec := { _root_.Go.OpenSpec.ofChange s with cond := some uptoSmall }

/-- 'laws.FnExactPathsFrom', WHERE WHAT IT READS IS OF BULK AT MOST 1048576: true; the input reads as it did. -/
def fnExactPathsFromUptoRow : OpenClaim := { program := "ytbonielldgjhiaagreat", sum := "0908ea995a00ae6823f06ae0e93229df307a2b20cf2a46315e09a4cb9cb651ca", func := "loop.example/g01105/laws.FnExactPathsFrom", spec := "fnExactPathsFrom", unfollowed := true, recurses := true, apart := false, narrowed := true }
def FnExactPathsFromUptoSaid : Prop := fnExactPathsFromUptoRow.holds Tryz.pinned (OpenSpec.upto fnExactPathsFromSpec)

/-- 'laws.FnExactPathsOfProgram', WHERE WHAT IT READS IS OF BULK AT MOST 1048576: true; the input reads as it did. -/
def fnExactPathsOfProgramUptoRow : OpenClaim := { program := "ytbonielldgjhiaagreat", sum := "0908ea995a00ae6823f06ae0e93229df307a2b20cf2a46315e09a4cb9cb651ca", func := "loop.example/g01105/laws.FnExactPathsOfProgram", spec := "fnExactPathsOfProgram", unfollowed := true, recurses := true, apart := false, narrowed := true }
def FnExactPathsOfProgramUptoSaid : Prop := fnExactPathsOfProgramUptoRow.holds Tryz.pinned (OpenSpec.upto fnExactPathsOfProgramSpec)

/-- 'laws.FnExactConditionsFrom', WHERE WHAT IT READS IS OF BULK AT MOST 1048576: true; the input reads as it did. -/
def fnExactConditionsFromUptoRow : OpenClaim := { program := "ytbonielldgjhiaagreat", sum := "0908ea995a00ae6823f06ae0e93229df307a2b20cf2a46315e09a4cb9cb651ca", func := "loop.example/g01105/laws.FnExactConditionsFrom", spec := "fnExactConditionsFrom", unfollowed := true, recurses := true, apart := false, narrowed := true }
def FnExactConditionsFromUptoSaid : Prop := fnExactConditionsFromUptoRow.holds Tryz.pinned (OpenSpec.upto fnExactConditionsFromSpec)

/-- 'laws.FnExactConditionsOfProgram', WHERE WHAT IT READS IS OF BULK AT MOST 1048576: true; the input reads as it did. -/
def fnExactConditionsOfProgramUptoRow : OpenClaim := { program := "ytbonielldgjhiaagreat", sum := "0908ea995a00ae6823f06ae0e93229df307a2b20cf2a46315e09a4cb9cb651ca", func := "loop.example/g01105/laws.FnExactConditionsOfProgram", spec := "fnExactConditionsOfProgram", unfollowed := true, recurses := true, apart := false, narrowed := true }
def FnExactConditionsOfProgramUptoSaid : Prop := fnExactConditionsOfProgramUptoRow.holds Tryz.pinned (OpenSpec.upto fnExactConditionsOfProgramSpec)

end Rows
end Go.Proofs.YtbonielldgjhiaaGreat
