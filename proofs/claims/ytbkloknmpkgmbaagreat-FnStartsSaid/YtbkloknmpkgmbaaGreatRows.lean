/-
  No cell of these rows narrows 'for every input' (looked for: loops, veiled, ifaces, maps, wideKeys, modest, calm, conditions, laid).
  DERIVED. THE GIVEN ROWS OF THIS SEAT. 3 by the template 'for every input the law returns true; each argument reads behind the call as it read before'; 0 by the template 'total and deterministic' (their statements: YtbkloknmpkgmbaaGreatTotals.lean).
  GIVEN WITH THE SEED: the statements are not yours to turn. If you find one false, say at which input.
  Laid BY PROGRAM, IN A SANDBOX (cutbox-rows.mjs): the forced cells as the released guide's own fill.sh prints them over the translation d4ad4949be4a412b… (all of the seat's roots in one cut). By AI agents, Wed Nov 11 2026. No macro, syntax, notation, axiom, sorry.
-/
import Derived.Test.YtbkloknmpkgmbaaGreatChecked
import GoSem.Claim
import GoSem.ClaimJoined
import GoSem.ClaimMapViews
import Derived.JoinedTies
import Derived.KernelRfl
namespace Go.Proofs.YtbkloknmpkgmbaaGreat
/- THE CELL 'sum', in the pinned program and in every row, IS THE sha256 OF THE DUMP (.gsa) THAT YtbkloknmpkgmbaaGreatProg.lean LOADS. Nothing in Lean hashes anything: it is a label: what it is worth is what the hold of that sum in a sandbox is worth. -/
noncomputable def Tryz.pinned : Pinned := { name := "ytbkloknmpkgmbaagreat", sum := "d4ad4949be4a412b9b1c60bcadd3e1ea7668cd6708eb34e450b0687352a1ad58", checked := Tryz.checked }
namespace Rows
def none {H : Type} : Left H := { results := [], args := [] }

/-- 'laws.FnPaths': WHATEVER THE INPUT: true; the input reads as it did. -/
def fnPathsSpec : ChangeSpec := { name := "fnPaths", fn := fun _ => fun
  | [d1, d2] => { results := [.lit (.bool true)], args := [d1, d2] }
  | _ => none }
def fnPathsRow : OpenClaim := { program := "ytbkloknmpkgmbaagreat", sum := "d4ad4949be4a412b9b1c60bcadd3e1ea7668cd6708eb34e450b0687352a1ad58", func := "loop.example/g01105/laws.FnPaths", spec := "fnPaths", unfollowed := true, recurses := true, apart := false }
def FnPathsSaid : Prop := fnPathsRow.holds Tryz.pinned (OpenSpec.ofChange fnPathsSpec)

/-- ITS FALSE NEIGHBOUR: 'it returns false'. Refute it at one input. -/
def fnPathsWrong : ChangeSpec := { name := "fnPaths", fn := fun _ => fun
  | [d1, d2] => { results := [.lit (.bool false)], args := [d1, d2] }
  | _ => none }
def FnPathsWrongFalsely : Prop := fnPathsRow.holds Tryz.pinned (OpenSpec.ofChange fnPathsWrong)

/-- 'laws.FnStarts': WHATEVER THE INPUT: true; the input reads as it did. -/
def fnStartsSpec : ChangeSpec := { name := "fnStarts", fn := fun _ => fun
  | [d1, d2] => { results := [.lit (.bool true)], args := [d1, d2] }
  | _ => none }
def fnStartsRow : OpenClaim := { program := "ytbkloknmpkgmbaagreat", sum := "d4ad4949be4a412b9b1c60bcadd3e1ea7668cd6708eb34e450b0687352a1ad58", func := "loop.example/g01105/laws.FnStarts", spec := "fnStarts", unfollowed := true, recurses := true, apart := false }
def FnStartsSaid : Prop := fnStartsRow.holds Tryz.pinned (OpenSpec.ofChange fnStartsSpec)

/-- ITS FALSE NEIGHBOUR: 'it returns false'. Refute it at one input. -/
def fnStartsWrong : ChangeSpec := { name := "fnStarts", fn := fun _ => fun
  | [d1, d2] => { results := [.lit (.bool false)], args := [d1, d2] }
  | _ => none }
def FnStartsWrongFalsely : Prop := fnStartsRow.holds Tryz.pinned (OpenSpec.ofChange fnStartsWrong)

/-- 'laws.FnExactProveProgram': WHATEVER THE INPUT: true; the input reads as it did. -/
def fnExactProveProgramSpec : ChangeSpec := { name := "fnExactProveProgram", fn := fun _ => fun
  | [d1, d2] => { results := [.lit (.bool true)], args := [d1, d2] }
  | _ => none }
def fnExactProveProgramRow : OpenClaim := { program := "ytbkloknmpkgmbaagreat", sum := "d4ad4949be4a412b9b1c60bcadd3e1ea7668cd6708eb34e450b0687352a1ad58", func := "loop.example/g01105/laws.FnExactProveProgram", spec := "fnExactProveProgram", unfollowed := true, recurses := true, apart := false }
def FnExactProveProgramSaid : Prop := fnExactProveProgramRow.holds Tryz.pinned (OpenSpec.ofChange fnExactProveProgramSpec)

/-- ITS FALSE NEIGHBOUR: 'it returns false'. Refute it at one input. -/
def fnExactProveProgramWrong : ChangeSpec := { name := "fnExactProveProgram", fn := fun _ => fun
  | [d1, d2] => { results := [.lit (.bool false)], args := [d1, d2] }
  | _ => none }
def FnExactProveProgramWrongFalsely : Prop := fnExactProveProgramRow.holds Tryz.pinned (OpenSpec.ofChange fnExactProveProgramWrong)

/- THE SECOND FORM. 'bulk': how many values and letters a reading holds, each counted each time it is reached (what is shared counts as often as it is met; a slice's spare places count too). A statement '..UptoSaid' is the law's where the arguments, and the package variables that the reading takes, are together of bulk at most 1048576: NARROWER than '..Said'. Prove '..Said' where nothing that the law and all that it calls make is longer than what came in: it says more and counts as full. Else prove '..UptoSaid'. A law counts once. -/
mutual
def uptoBulk {H : Type} : DataW H → Nat
  | .lit (.string bytes) => bytes.length + 1
  | .lit _ => 1
  | .nil => 1
  | .ptr d => uptoBulk d + 1
  | .slice elems spare => uptoBulkAll elems + uptoBulkAll spare + 1
  | .agg parts => uptoBulkAll parts + 1
  | .iface _ d => uptoBulk d + 1
  | .map entries => uptoBulkEntries entries + 1
  | .held _ => 1
def uptoBulkAll {H : Type} : List (DataW H) → Nat
  | [] => 0
  | d :: r => uptoBulk d + uptoBulkAll r
def uptoBulkEntries {H : Type} : List (Lit × DataW H) → Nat
  | [] => 0
  | x :: r => uptoBulkEntry x + uptoBulkEntries r
def uptoBulkEntry {H : Type} : Lit × DataW H → Nat
  | (.string bytes, d) => bytes.length + uptoBulk d + 1
  | (_, d) => uptoBulk d + 1
 end
def uptoSmall : (H : Type) → List (DataW H) → Bool := fun _ ds => decide (uptoBulkAll ds ≤ 1048576)
def OpenSpec.upto (s : _root_.Go.ChangeSpec) : _root_.Go.OpenSpec := { _root_.Go.OpenSpec.ofChange s with cond := some uptoSmall }

/-- 'laws.FnPaths', WHERE WHAT IT READS IS OF BULK AT MOST 1048576: true; the input reads as it did. -/
def fnPathsUptoRow : OpenClaim := { program := "ytbkloknmpkgmbaagreat", sum := "d4ad4949be4a412b9b1c60bcadd3e1ea7668cd6708eb34e450b0687352a1ad58", func := "loop.example/g01105/laws.FnPaths", spec := "fnPaths", unfollowed := true, recurses := true, apart := false, narrowed := true }
def FnPathsUptoSaid : Prop := fnPathsUptoRow.holds Tryz.pinned (OpenSpec.upto fnPathsSpec)

/-- 'laws.FnStarts', WHERE WHAT IT READS IS OF BULK AT MOST 1048576: true; the input reads as it did. -/
def fnStartsUptoRow : OpenClaim := { program := "ytbkloknmpkgmbaagreat", sum := "d4ad4949be4a412b9b1c60bcadd3e1ea7668cd6708eb34e450b0687352a1ad58", func := "loop.example/g01105/laws.FnStarts", spec := "fnStarts", unfollowed := true, recurses := true, apart := false, narrowed := true }
def FnStartsUptoSaid : Prop := fnStartsUptoRow.holds Tryz.pinned (OpenSpec.upto fnStartsSpec)

/-- 'laws.FnExactProveProgram', WHERE WHAT IT READS IS OF BULK AT MOST 1048576: true; the input reads as it did. -/
def fnExactProveProgramUptoRow : OpenClaim := { program := "ytbkloknmpkgmbaagreat", sum := "d4ad4949be4a412b9b1c60bcadd3e1ea7668cd6708eb34e450b0687352a1ad58", func := "loop.example/g01105/laws.FnExactProveProgram", spec := "fnExactProveProgram", unfollowed := true, recurses := true, apart := false, narrowed := true }
def FnExactProveProgramUptoSaid : Prop := fnExactProveProgramUptoRow.holds Tryz.pinned (OpenSpec.upto fnExactProveProgramSpec)

end Rows
end Go.Proofs.YtbkloknmpkgmbaaGreat
