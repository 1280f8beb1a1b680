/-
  DERIVED. GIVEN WITH THE SEED: THE CARDS: each row of YtnjjkcooihngnaaGreatDoorRows.lean that lists a variable, with what it lists TIED to the program's text (the seventh form; the later family's looks); each row that meets fmt, with fmt's text TOLD by the authors' own Lean function (tested against real Go, not proved from fmt's source: count such statements apart). THE CARD IS WHAT COUNTS. Prove the row's statement (the work); the ties are given (YtnjjkcooihngnaaGreatDoorTie.lean); close each card by the builder's one call (the guide's Derived/Test/ToyasCard.lean, 'card_holds'). Laid BY PROGRAM, IN A SANDBOX (cutbox-door.mjs). By AI agents, Wed Nov 11 2026. No macro, syntax, notation, axiom, sorry.
-/
import Derived.Test.YtnjjkcooihngnaaGreatDoorRows
import GoSem.ClaimSeven
namespace Go.Proofs.YtnjjkcooihngnaaGreatDoor
namespace Rows

/-- THE TIED CARD OF 'laws.FnExactReadAnnotated'. -/
def fnExactReadAnnotatedCard : Claim7 := { stood := { row := fnExactReadAnnotatedRow, standIns := [], harness := (true, "f27a3adc1877bd47fee1aa2ac88a02c44b495c5a0cecde4fd2c0b962117014ad"), looks := true }, kinds := [], alts := [], laidByText := true, laidKinds := [.data, .data, .data, .data, .sentinel, .sentinel, .pinned], laidTests := true, laidLooks := .later }
def FnExactReadAnnotatedCardSaid : Prop := Claim7.holds Tryz.pinned (.plain (OpenSpec.ofChange fnExactReadAnnotatedSpec)) fnExactReadAnnotatedCard

/-- THE SECOND FORM's CARD OF 'laws.FnExactReadAnnotated'. -/
def fnExactReadAnnotatedUptoCard : Claim7 := { stood := { row := fnExactReadAnnotatedUptoRow, standIns := [], harness := (true, "f27a3adc1877bd47fee1aa2ac88a02c44b495c5a0cecde4fd2c0b962117014ad"), looks := true }, kinds := [], alts := [], laidByText := true, laidKinds := [.data, .data, .data, .data, .sentinel, .sentinel, .pinned], laidTests := true, laidLooks := .later }
def FnExactReadAnnotatedUptoCardSaid : Prop := Claim7.holds Tryz.pinned (.plain (OpenSpec.upto fnExactReadAnnotatedSpec)) fnExactReadAnnotatedUptoCard
end Rows
end Go.Proofs.YtnjjkcooihngnaaGreatDoor
