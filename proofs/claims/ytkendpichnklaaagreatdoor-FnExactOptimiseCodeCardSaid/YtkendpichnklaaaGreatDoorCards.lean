/-
  DERIVED. GIVEN WITH THE SEED: THE CARDS: each row of YtkendpichnklaaaGreatDoorRows.lean that lists a variable, with what it lists TIED to the program's text (the seventh form; the later family's looks); each row that meets fmt, with fmt's text TOLD by the authors' own Lean function (tested against real Go, not proved from fmt's source: count such statements apart). THE CARD IS WHAT COUNTS. Prove the row's statement (the work); the ties are given (YtkendpichnklaaaGreatDoorTie.lean); close each card by the builder's one call (the guide's Derived/Test/ToyasCard.lean, 'card_holds'). Laid BY PROGRAM, IN A SANDBOX (cutbox-door.mjs). By AI agents, Wed Nov 11 2026. No macro, syntax, notation, axiom, sorry.
-/
import Derived.Test.YtkendpichnklaaaGreatDoorRows
import GoSem.ClaimSeven
namespace Go.Proofs.YtkendpichnklaaaGreatDoor
namespace Rows

/-- THE TIED CARD OF 'laws.FnExactOptimiseCode'. -/
def fnExactOptimiseCodeCard : Claim7 := { stood := { row := fnExactOptimiseCodeRow, standIns := [], harness := (true, "db334681b7be817534ad3841256ba1c095511b70f4059e1b70bc657b0c2213e0"), looks := false }, kinds := [], alts := [], laidByText := true, laidKinds := [.data, .data, .data], laidTests := true, laidLooks := .later }
def FnExactOptimiseCodeCardSaid : Prop := Claim7.holds Tryz.pinned (.plain (OpenSpec.ofChange fnExactOptimiseCodeSpec)) fnExactOptimiseCodeCard

/-- THE SECOND FORM's CARD OF 'laws.FnExactOptimiseCode'. -/
def fnExactOptimiseCodeUptoCard : Claim7 := { stood := { row := fnExactOptimiseCodeUptoRow, standIns := [], harness := (true, "db334681b7be817534ad3841256ba1c095511b70f4059e1b70bc657b0c2213e0"), looks := false }, kinds := [], alts := [], laidByText := true, laidKinds := [.data, .data, .data], laidTests := true, laidLooks := .later }
def FnExactOptimiseCodeUptoCardSaid : Prop := Claim7.holds Tryz.pinned (.plain (OpenSpec.upto fnExactOptimiseCodeSpec)) fnExactOptimiseCodeUptoCard
end Rows
end Go.Proofs.YtkendpichnklaaaGreatDoor
