/-
  DERIVED. GIVEN WITH THE SEED: THE CARDS: each row of YtdjlfclghdofoaaGreatDoorRows.lean that lists a variable, with what it lists TIED to the program's text (the seventh form; the later family's looks); each row that meets fmt, with fmt's text TOLD by the authors' own Lean function (tested against real Go, not proved from fmt's source: count such statements apart). THE CARD IS WHAT COUNTS. Prove the row's statement (the work); the ties are given (YtdjlfclghdofoaaGreatDoorTie.lean); close each card by the builder's one call (the guide's Derived/Test/ToyasCard.lean, 'card_holds'). Laid BY PROGRAM, IN A SANDBOX (cutbox-door.mjs). By AI agents, Wed Nov 11 2026. No macro, syntax, notation, axiom, sorry.
-/
import Derived.Test.YtdjlfclghdofoaaGreatDoorRows
import GoSem.ClaimSeven
namespace Go.Proofs.YtdjlfclghdofoaaGreatDoor
namespace Rows

/-- THE TIED CARD OF 'laws.FnJoinedCode'. -/
def fnJoinedCodeCard : Claim7 := { stood := { row := fnJoinedCodeRow, standIns := [], harness := (true, "34ed44b3307e29c5c43444e6c92799083822965536ff5d021ff34d66a3af74d2"), looks := true }, kinds := [], alts := [], laidByText := true, laidKinds := [.data, .data, .data, .data, .sentinel, .sentinel, .pinned], laidTests := true, laidLooks := .later }
def FnJoinedCodeCardSaid : Prop := Claim7.holds Tryz.pinned (.plain (OpenSpec.ofChange fnJoinedCodeSpec)) fnJoinedCodeCard

/-- THE TIED CARD OF 'laws.FnPointed'. -/
def fnPointedCard : Claim7 := { stood := { row := fnPointedRow, standIns := [], harness := (true, "34ed44b3307e29c5c43444e6c92799083822965536ff5d021ff34d66a3af74d2"), looks := true }, kinds := [], alts := [], laidByText := true, laidKinds := [.data, .data, .data, .data, .sentinel, .sentinel, .pinned], laidTests := true, laidLooks := .later }
def FnPointedCardSaid : Prop := Claim7.holds Tryz.pinned (.plain (OpenSpec.ofChange fnPointedSpec)) fnPointedCard

/-- THE SECOND FORM's CARD OF 'laws.FnJoinedCode'. -/
def fnJoinedCodeUptoCard : Claim7 := { stood := { row := fnJoinedCodeUptoRow, standIns := [], harness := (true, "34ed44b3307e29c5c43444e6c92799083822965536ff5d021ff34d66a3af74d2"), looks := true }, kinds := [], alts := [], laidByText := true, laidKinds := [.data, .data, .data, .data, .sentinel, .sentinel, .pinned], laidTests := true, laidLooks := .later }
def FnJoinedCodeUptoCardSaid : Prop := Claim7.holds Tryz.pinned (.plain (OpenSpec.upto fnJoinedCodeSpec)) fnJoinedCodeUptoCard

/-- THE SECOND FORM's CARD OF 'laws.FnPointed'. -/
def fnPointedUptoCard : Claim7 := { stood := { row := fnPointedUptoRow, standIns := [], harness := (true, "34ed44b3307e29c5c43444e6c92799083822965536ff5d021ff34d66a3af74d2"), looks := true }, kinds := [], alts := [], laidByText := true, laidKinds := [.data, .data, .data, .data, .sentinel, .sentinel, .pinned], laidTests := true, laidLooks := .later }
def FnPointedUptoCardSaid : Prop := Claim7.holds Tryz.pinned (.plain (OpenSpec.upto fnPointedSpec)) fnPointedUptoCard
end Rows
end Go.Proofs.YtdjlfclghdofoaaGreatDoor
