/-
  No cell of these rows narrows 'for every input' (looked for: loops, veiled, ifaces, maps, wideKeys, modest, calm, conditions, laid).
  DERIVED. THE GIVEN ROWS OF THIS SEAT. 6 by the template 'for every input the law returns true; each argument reads behind the call as it read before'; 0 by the template 'total and deterministic' (their statements: YtegcggeaempllaaTotals.lean).
  GIVEN WITH THE SEED: the statements are not yours to turn. If you find one false, say at which input.
  Laid BY PROGRAM, IN A SANDBOX (cutbox-rows.mjs): the forced cells as the released guide's own fill.sh prints them over the translation 2bba9096a22b874c… (all of the seat's roots in one cut). By AI agents, Wed Nov 11 2026. No macro, syntax, notation, axiom, sorry.
-/
import Derived.Test.YtegcggeaempllaaChecked
import GoSem.Claim
import GoSem.ClaimJoined
import GoSem.ClaimMapViews
import Derived.JoinedTies
import Derived.KernelRfl
namespace Go.Proofs.Ytegcggeaempllaa
/- THE CELL 'sum', in the pinned program and in every row, IS THE sha256 OF THE DUMP (.gsa) THAT YtegcggeaempllaaProg.lean LOADS. Nothing in Lean hashes anything: it is a label: what it is worth is what the hold of that sum in a sandbox is worth. -/
noncomputable def Try.pinned : Pinned := { name := "ytegcggeaempllaa", sum := "2bba9096a22b874ce9b0444560cb22b181dbe387802f00c3b5affe6343bb6715", checked := Try.checked }
namespace Rows
def none {H : Type} : Left H := { results := [], args := [] }

/-- 'laws.FnExactFirstOpen': WHATEVER THE INPUT: true; the input reads as it did. -/
def fnExactFirstOpenSpec : ChangeSpec := { name := "fnExactFirstOpen", fn := fun _ => fun
  | [d1, d2] => { results := [.lit (.bool true)], args := [d1, d2] }
  | _ => none }
def fnExactFirstOpenRow : OpenClaim := { program := "ytegcggeaempllaa", sum := "2bba9096a22b874ce9b0444560cb22b181dbe387802f00c3b5affe6343bb6715", func := "loop.example/g01105/laws.FnExactFirstOpen", spec := "fnExactFirstOpen", unfollowed := true, recurses := true, apart := false }
def FnExactFirstOpenSaid : Prop := fnExactFirstOpenRow.holds Try.pinned (OpenSpec.ofChange fnExactFirstOpenSpec)

/-- ITS FALSE NEIGHBOUR: 'it returns false'. Refute it at one input. -/
def fnExactFirstOpenWrong : ChangeSpec := { name := "fnExactFirstOpen", fn := fun _ => fun
  | [d1, d2] => { results := [.lit (.bool false)], args := [d1, d2] }
  | _ => none }
def FnExactFirstOpenWrongFalsely : Prop := fnExactFirstOpenRow.holds Try.pinned (OpenSpec.ofChange fnExactFirstOpenWrong)

/-- 'laws.FnExactCoreOf': WHATEVER THE INPUT: true; the input reads as it did. -/
def fnExactCoreOfSpec : ChangeSpec := { name := "fnExactCoreOf", fn := fun _ => fun
  | [d1, d2] => { results := [.lit (.bool true)], args := [d1, d2] }
  | _ => none }
def fnExactCoreOfRow : OpenClaim := { program := "ytegcggeaempllaa", sum := "2bba9096a22b874ce9b0444560cb22b181dbe387802f00c3b5affe6343bb6715", func := "loop.example/g01105/laws.FnExactCoreOf", spec := "fnExactCoreOf", unfollowed := true, recurses := true, apart := false }
def FnExactCoreOfSaid : Prop := fnExactCoreOfRow.holds Try.pinned (OpenSpec.ofChange fnExactCoreOfSpec)

/-- ITS FALSE NEIGHBOUR: 'it returns false'. Refute it at one input. -/
def fnExactCoreOfWrong : ChangeSpec := { name := "fnExactCoreOf", fn := fun _ => fun
  | [d1, d2] => { results := [.lit (.bool false)], args := [d1, d2] }
  | _ => none }
def FnExactCoreOfWrongFalsely : Prop := fnExactCoreOfRow.holds Try.pinned (OpenSpec.ofChange fnExactCoreOfWrong)

/-- 'laws.FnExactProveSequent': WHATEVER THE INPUT: true; the input reads as it did. -/
def fnExactProveSequentSpec : ChangeSpec := { name := "fnExactProveSequent", fn := fun _ => fun
  | [d1, d2] => { results := [.lit (.bool true)], args := [d1, d2] }
  | _ => none }
def fnExactProveSequentRow : OpenClaim := { program := "ytegcggeaempllaa", sum := "2bba9096a22b874ce9b0444560cb22b181dbe387802f00c3b5affe6343bb6715", func := "loop.example/g01105/laws.FnExactProveSequent", spec := "fnExactProveSequent", unfollowed := true, recurses := true, apart := false }
def FnExactProveSequentSaid : Prop := fnExactProveSequentRow.holds Try.pinned (OpenSpec.ofChange fnExactProveSequentSpec)

/-- ITS FALSE NEIGHBOUR: 'it returns false'. Refute it at one input. -/
def fnExactProveSequentWrong : ChangeSpec := { name := "fnExactProveSequent", fn := fun _ => fun
  | [d1, d2] => { results := [.lit (.bool false)], args := [d1, d2] }
  | _ => none }
def FnExactProveSequentWrongFalsely : Prop := fnExactProveSequentRow.holds Try.pinned (OpenSpec.ofChange fnExactProveSequentWrong)

/-- 'laws.FnExactJoinProofs': WHATEVER THE INPUT: true; the input reads as it did. -/
def fnExactJoinProofsSpec : ChangeSpec := { name := "fnExactJoinProofs", fn := fun _ => fun
  | [d1, d2, d3, d4] => { results := [.lit (.bool true)], args := [d1, d2, d3, d4] }
  | _ => none }
def fnExactJoinProofsRow : OpenClaim := { program := "ytegcggeaempllaa", sum := "2bba9096a22b874ce9b0444560cb22b181dbe387802f00c3b5affe6343bb6715", func := "loop.example/g01105/laws.FnExactJoinProofs", spec := "fnExactJoinProofs", unfollowed := true, recurses := true, apart := false }
def FnExactJoinProofsSaid : Prop := fnExactJoinProofsRow.holds Try.pinned (OpenSpec.ofChange fnExactJoinProofsSpec)

/-- ITS FALSE NEIGHBOUR: 'it returns false'. Refute it at one input. -/
def fnExactJoinProofsWrong : ChangeSpec := { name := "fnExactJoinProofs", fn := fun _ => fun
  | [d1, d2, d3, d4] => { results := [.lit (.bool false)], args := [d1, d2, d3, d4] }
  | _ => none }
def FnExactJoinProofsWrongFalsely : Prop := fnExactJoinProofsRow.holds Try.pinned (OpenSpec.ofChange fnExactJoinProofsWrong)

/-- 'laws.FnExactLiftProof': WHATEVER THE INPUT: true; the input reads as it did. -/
def fnExactLiftProofSpec : ChangeSpec := { name := "fnExactLiftProof", fn := fun _ => fun
  | [d1, d2, d3] => { results := [.lit (.bool true)], args := [d1, d2, d3] }
  | _ => none }
def fnExactLiftProofRow : OpenClaim := { program := "ytegcggeaempllaa", sum := "2bba9096a22b874ce9b0444560cb22b181dbe387802f00c3b5affe6343bb6715", func := "loop.example/g01105/laws.FnExactLiftProof", spec := "fnExactLiftProof", unfollowed := true, recurses := true, apart := false }
def FnExactLiftProofSaid : Prop := fnExactLiftProofRow.holds Try.pinned (OpenSpec.ofChange fnExactLiftProofSpec)

/-- ITS FALSE NEIGHBOUR: 'it returns false'. Refute it at one input. -/
def fnExactLiftProofWrong : ChangeSpec := { name := "fnExactLiftProof", fn := fun _ => fun
  | [d1, d2, d3] => { results := [.lit (.bool false)], args := [d1, d2, d3] }
  | _ => none }
def FnExactLiftProofWrongFalsely : Prop := fnExactLiftProofRow.holds Try.pinned (OpenSpec.ofChange fnExactLiftProofWrong)

/-- 'laws.FnExactDropUnused': WHATEVER THE INPUT: true; the input reads as it did. -/
def fnExactDropUnusedSpec : ChangeSpec := { name := "fnExactDropUnused", fn := fun _ => fun
  | [d1, d2] => { results := [.lit (.bool true)], args := [d1, d2] }
  | _ => none }
def fnExactDropUnusedRow : OpenClaim := { program := "ytegcggeaempllaa", sum := "2bba9096a22b874ce9b0444560cb22b181dbe387802f00c3b5affe6343bb6715", func := "loop.example/g01105/laws.FnExactDropUnused", spec := "fnExactDropUnused", unfollowed := true, recurses := true, apart := false }
def FnExactDropUnusedSaid : Prop := fnExactDropUnusedRow.holds Try.pinned (OpenSpec.ofChange fnExactDropUnusedSpec)

/-- ITS FALSE NEIGHBOUR: 'it returns false'. Refute it at one input. -/
def fnExactDropUnusedWrong : ChangeSpec := { name := "fnExactDropUnused", fn := fun _ => fun
  | [d1, d2] => { results := [.lit (.bool false)], args := [d1, d2] }
  | _ => none }
def FnExactDropUnusedWrongFalsely : Prop := fnExactDropUnusedRow.holds Try.pinned (OpenSpec.ofChange fnExactDropUnusedWrong)

/- THE SECOND FORM. 'bulk': how many values and letters a reading holds, each counted each time it is reached (what is shared counts as often as it is met; a slice's spare places count too). A statement '..UptoSaid' is the law's where the arguments, and the package variables that the reading takes, are together of bulk at most 1048576: NARROWER than '..Said'. Prove '..Said' where nothing that the law and all that it calls make is longer than what came in: it says more and counts as full. Else prove '..UptoSaid'. A law counts once. -/
mutual
def uptoBulk {H : Type} : DataW H → Nat
  | .lit (.string bytes) => bytes.length + 1
  | .lit _ => 1
  | .nil => 1
  | .ptr d => uptoBulk d + 1
  | .slice elems spare => uptoBulkAll elems + uptoBulkAll spare + 1
  | .agg parts => uptoBulkAll parts + 1
  | .iface _ d => uptoBulk d + 1
  | .map entries => uptoBulkEntries entries + 1
  | .held _ => 1
def uptoBulkAll {H : Type} : List (DataW H) → Nat
  | [] => 0
  | d :: r => uptoBulk d + uptoBulkAll r
def uptoBulkEntries {H : Type} : List (Lit × DataW H) → Nat
  | [] => 0
  | x :: r => uptoBulkEntry x + uptoBulkEntries r
def uptoBulkEntry {H : Type} : Lit × DataW H → Nat
  | (.string bytes, d) => bytes.length + uptoBulk d + 1
  | (_, d) => uptoBulk d + 1
 end
def uptoSmall : (H : Type) → List (DataW H) → Bool := fun _ ds => decide (uptoBulkAll ds ≤ 1048576)
def OpenSpec.upto (s : _root_.Go.ChangeSpec) : _root_.Go.OpenSpec := { _root_.Go.OpenSpec.ofChange s with cond := some uptoSmall }

/-- 'laws.FnExactFirstOpen', WHERE WHAT IT READS IS OF BULK AT MOST 1048576: true; the input reads as it did. -/
def fnExactFirstOpenUptoRow : OpenClaim := { program := "ytegcggeaempllaa", sum := "2bba9096a22b874ce9b0444560cb22b181dbe387802f00c3b5affe6343bb6715", func := "loop.example/g01105/laws.FnExactFirstOpen", spec := "fnExactFirstOpen", unfollowed := true, recurses := true, apart := false, narrowed := true }
def FnExactFirstOpenUptoSaid : Prop := fnExactFirstOpenUptoRow.holds Try.pinned (OpenSpec.upto fnExactFirstOpenSpec)

/-- 'laws.FnExactCoreOf', WHERE WHAT IT READS IS OF BULK AT MOST 1048576: true; the input reads as it did. -/
def fnExactCoreOfUptoRow : OpenClaim := { program := "ytegcggeaempllaa", sum := "2bba9096a22b874ce9b0444560cb22b181dbe387802f00c3b5affe6343bb6715", func := "loop.example/g01105/laws.FnExactCoreOf", spec := "fnExactCoreOf", unfollowed := true, recurses := true, apart := false, narrowed := true }
def FnExactCoreOfUptoSaid : Prop := fnExactCoreOfUptoRow.holds Try.pinned (OpenSpec.upto fnExactCoreOfSpec)

/-- 'laws.FnExactProveSequent', WHERE WHAT IT READS IS OF BULK AT MOST 1048576: true; the input reads as it did. -/
def fnExactProveSequentUptoRow : OpenClaim := { program := "ytegcggeaempllaa", sum := "2bba9096a22b874ce9b0444560cb22b181dbe387802f00c3b5affe6343bb6715", func := "loop.example/g01105/laws.FnExactProveSequent", spec := "fnExactProveSequent", unfollowed := true, recurses := true, apart := false, narrowed := true }
def FnExactProveSequentUptoSaid : Prop := fnExactProveSequentUptoRow.holds Try.pinned (OpenSpec.upto fnExactProveSequentSpec)

/-- 'laws.FnExactJoinProofs', WHERE WHAT IT READS IS OF BULK AT MOST 1048576: true; the input reads as it did. -/
def fnExactJoinProofsUptoRow : OpenClaim := { program := "ytegcggeaempllaa", sum := "2bba9096a22b874ce9b0444560cb22b181dbe387802f00c3b5affe6343bb6715", func := "loop.example/g01105/laws.FnExactJoinProofs", spec := "fnExactJoinProofs", unfollowed := true, recurses := true, apart := false, narrowed := true }
def FnExactJoinProofsUptoSaid : Prop := fnExactJoinProofsUptoRow.holds Try.pinned (OpenSpec.upto fnExactJoinProofsSpec)

/-- 'laws.FnExactLiftProof', WHERE WHAT IT READS IS OF BULK AT MOST 1048576: true; the input reads as it did. -/
def fnExactLiftProofUptoRow : OpenClaim := { program := "ytegcggeaempllaa", sum := "2bba9096a22b874ce9b0444560cb22b181dbe387802f00c3b5affe6343bb6715", func := "loop.example/g01105/laws.FnExactLiftProof", spec := "fnExactLiftProof", unfollowed := true, recurses := true, apart := false, narrowed := true }
def FnExactLiftProofUptoSaid : Prop := fnExactLiftProofUptoRow.holds Try.pinned (OpenSpec.upto fnExactLiftProofSpec)

/-- 'laws.FnExactDropUnused', WHERE WHAT IT READS IS OF BULK AT MOST 1048576: true; the input reads as it did. -/
def fnExactDropUnusedUptoRow : OpenClaim := { program := "ytegcggeaempllaa", sum := "2bba9096a22b874ce9b0444560cb22b181dbe387802f00c3b5affe6343bb6715", func := "loop.example/g01105/laws.FnExactDropUnused", spec := "fnExactDropUnused", unfollowed := true, recurses := true, apart := false, narrowed := true }
def FnExactDropUnusedUptoSaid : Prop := fnExactDropUnusedUptoRow.holds Try.pinned (OpenSpec.upto fnExactDropUnusedSpec)

end Rows
end Go.Proofs.Ytegcggeaempllaa
