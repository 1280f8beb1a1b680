/-
  DERIVED. GIVEN WITH THE SEED: THE CARDS: each row of YtlofbdghppgnbaaDoorRows.lean that lists a variable, with what it lists TIED to the program's text (the seventh form; the later family's looks); each row that meets fmt, with fmt's text TOLD by the authors' own Lean function (tested against real Go, not proved from fmt's source: count such statements apart). THE CARD IS WHAT COUNTS. Prove the row's statement (the work); the ties are given (YtlofbdghppgnbaaDoorTie.lean); close each card by the builder's one call (the guide's Derived/Test/ToyasCard.lean, 'card_holds'). Laid BY PROGRAM, IN A SANDBOX (cutbox-door.mjs). By AI agents, Wed Nov 11 2026. No macro, syntax, notation, axiom, sorry.
-/
import Derived.Test.YtlofbdghppgnbaaDoorRows
import GoSem.ClaimSeven
namespace Go.Proofs.YtlofbdghppgnbaaDoor
namespace Rows

/-- THE TIED CARD OF 'laws.FnTermTexts'. -/
def fnTermTextsCard : Claim7 := { stood := { row := fnTermTextsRow, standIns := [], harness := (true, "6cca72b2a944904bbfb069953a6e372bcad73a662351e532308558e6d10e83e5"), looks := true }, kinds := [], alts := [], laidByText := true, laidKinds := [.data, .data, .data, .data, .pinned], laidTests := true, laidLooks := .later }
def FnTermTextsCardSaid : Prop := Claim7.holds Tryd.pinned (.plain (OpenSpec.ofChange fnTermTextsSpec)) fnTermTextsCard

/-- THE TIED CARD OF 'laws.FnExactReadSequent'. -/
def fnExactReadSequentCard : Claim7 := { stood := { row := fnExactReadSequentRow, standIns := [], harness := (true, "6cca72b2a944904bbfb069953a6e372bcad73a662351e532308558e6d10e83e5"), looks := true }, kinds := [], alts := [], laidByText := true, laidKinds := [.data, .data, .data, .data, .pinned], laidTests := true, laidLooks := .later }
def FnExactReadSequentCardSaid : Prop := Claim7.holds Tryd.pinned (.plain (OpenSpec.ofChange fnExactReadSequentSpec)) fnExactReadSequentCard

/-- THE TIED CARD OF 'laws.FnExactFirstBadLine'. -/
def fnExactFirstBadLineCard : Claim7 := { stood := { row := fnExactFirstBadLineRow, standIns := [], harness := (true, "6cca72b2a944904bbfb069953a6e372bcad73a662351e532308558e6d10e83e5"), looks := true }, kinds := [], alts := [], laidByText := true, laidKinds := [.data, .data, .data, .data, .sentinel, .sentinel, .pinned], laidTests := true, laidLooks := .later }
def FnExactFirstBadLineCardSaid : Prop := Claim7.holds Tryd.pinned (.plain (OpenSpec.ofChange fnExactFirstBadLineSpec)) fnExactFirstBadLineCard

/-- THE TIED CARD OF 'laws.FnExactReadProof'. -/
def fnExactReadProofCard : Claim7 := { stood := { row := fnExactReadProofRow, standIns := [], harness := (true, "6cca72b2a944904bbfb069953a6e372bcad73a662351e532308558e6d10e83e5"), looks := true }, kinds := [], alts := [], laidByText := true, laidKinds := [.data, .data, .data, .data, .sentinel, .sentinel, .pinned], laidTests := true, laidLooks := .later }
def FnExactReadProofCardSaid : Prop := Claim7.holds Tryd.pinned (.plain (OpenSpec.ofChange fnExactReadProofSpec)) fnExactReadProofCard

/-- THE SECOND FORM's CARD OF 'laws.FnTermTexts'. -/
def fnTermTextsUptoCard : Claim7 := { stood := { row := fnTermTextsUptoRow, standIns := [], harness := (true, "6cca72b2a944904bbfb069953a6e372bcad73a662351e532308558e6d10e83e5"), looks := true }, kinds := [], alts := [], laidByText := true, laidKinds := [.data, .data, .data, .data, .pinned], laidTests := true, laidLooks := .later }
def FnTermTextsUptoCardSaid : Prop := Claim7.holds Tryd.pinned (.plain (OpenSpec.upto fnTermTextsSpec)) fnTermTextsUptoCard

/-- THE SECOND FORM's CARD OF 'laws.FnExactReadSequent'. -/
def fnExactReadSequentUptoCard : Claim7 := { stood := { row := fnExactReadSequentUptoRow, standIns := [], harness := (true, "6cca72b2a944904bbfb069953a6e372bcad73a662351e532308558e6d10e83e5"), looks := true }, kinds := [], alts := [], laidByText := true, laidKinds := [.data, .data, .data, .data, .pinned], laidTests := true, laidLooks := .later }
def FnExactReadSequentUptoCardSaid : Prop := Claim7.holds Tryd.pinned (.plain (OpenSpec.upto fnExactReadSequentSpec)) fnExactReadSequentUptoCard

/-- THE SECOND FORM's CARD OF 'laws.FnExactFirstBadLine'. -/
def fnExactFirstBadLineUptoCard : Claim7 := { stood := { row := fnExactFirstBadLineUptoRow, standIns := [], harness := (true, "6cca72b2a944904bbfb069953a6e372bcad73a662351e532308558e6d10e83e5"), looks := true }, kinds := [], alts := [], laidByText := true, laidKinds := [.data, .data, .data, .data, .sentinel, .sentinel, .pinned], laidTests := true, laidLooks := .later }
def FnExactFirstBadLineUptoCardSaid : Prop := Claim7.holds Tryd.pinned (.plain (OpenSpec.upto fnExactFirstBadLineSpec)) fnExactFirstBadLineUptoCard

/-- THE SECOND FORM's CARD OF 'laws.FnExactReadProof'. -/
def fnExactReadProofUptoCard : Claim7 := { stood := { row := fnExactReadProofUptoRow, standIns := [], harness := (true, "6cca72b2a944904bbfb069953a6e372bcad73a662351e532308558e6d10e83e5"), looks := true }, kinds := [], alts := [], laidByText := true, laidKinds := [.data, .data, .data, .data, .sentinel, .sentinel, .pinned], laidTests := true, laidLooks := .later }
def FnExactReadProofUptoCardSaid : Prop := Claim7.holds Tryd.pinned (.plain (OpenSpec.upto fnExactReadProofSpec)) fnExactReadProofUptoCard
end Rows
end Go.Proofs.YtlofbdghppgnbaaDoor
