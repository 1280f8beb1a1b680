/-
  DERIVED. GIVEN WITH THE SEED: THE CARDS: each row of YtokffjlobnhglaaGreatDoorRows.lean that lists a variable, with what it lists TIED to the program's text (the seventh form; the later family's looks); each row that meets fmt, with fmt's text TOLD by the authors' own Lean function (tested against real Go, not proved from fmt's source: count such statements apart). THE CARD IS WHAT COUNTS. Prove the row's statement (the work); the ties are given (YtokffjlobnhglaaGreatDoorTie.lean); close each card by the builder's one call (the guide's Derived/Test/ToyasCard.lean, 'card_holds'). Laid BY PROGRAM, IN A SANDBOX (cutbox-door.mjs). By AI agents, Wed Nov 11 2026. No macro, syntax, notation, axiom, sorry.
-/
import Derived.Test.YtokffjlobnhglaaGreatDoorRows
import GoSem.ClaimSeven
namespace Go.Proofs.YtokffjlobnhglaaGreatDoor
namespace Rows

/-- THE TIED CARD OF 'laws.FnExactPackageBytes'. -/
def fnExactPackageBytesCard : Claim7 := { stood := { row := fnExactPackageBytesRow, standIns := [], harness := (true, "0e58cf451f90bc7dfa88c2f62c1bb69815cb202063089d9e7e200635471213db"), looks := false }, kinds := [], alts := [], laidByText := true, laidKinds := [.data, .data, .data], laidTests := true, laidLooks := .later }
def FnExactPackageBytesCardSaid : Prop := Claim7.holds Tryz.pinned (.plain (OpenSpec.ofChange fnExactPackageBytesSpec)) fnExactPackageBytesCard

/-- THE SECOND FORM's CARD OF 'laws.FnExactPackageBytes'. -/
def fnExactPackageBytesUptoCard : Claim7 := { stood := { row := fnExactPackageBytesUptoRow, standIns := [], harness := (true, "0e58cf451f90bc7dfa88c2f62c1bb69815cb202063089d9e7e200635471213db"), looks := false }, kinds := [], alts := [], laidByText := true, laidKinds := [.data, .data, .data], laidTests := true, laidLooks := .later }
def FnExactPackageBytesUptoCardSaid : Prop := Claim7.holds Tryz.pinned (.plain (OpenSpec.upto fnExactPackageBytesSpec)) fnExactPackageBytesUptoCard
end Rows
end Go.Proofs.YtokffjlobnhglaaGreatDoor
