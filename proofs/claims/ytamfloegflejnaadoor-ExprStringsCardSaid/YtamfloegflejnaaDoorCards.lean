/-
  DERIVED. GIVEN WITH THE SEED: THE CARDS: each row of YtamfloegflejnaaDoorRows.lean that lists a variable, with what it lists TIED to the program's text (the seventh form; the later family's looks); each row that meets fmt, with fmt's text TOLD by the authors' own Lean function (tested against real Go, not proved from fmt's source: count such statements apart). THE CARD IS WHAT COUNTS. Prove the row's statement (the work); the ties are given (YtamfloegflejnaaDoorTie.lean); close each card by the builder's one call (the guide's Derived/Test/ToyasCard.lean, 'card_holds'). Laid BY PROGRAM, IN A SANDBOX (cutbox-door.mjs). By AI agents, Wed Nov 11 2026. No macro, syntax, notation, axiom, sorry.
-/
import Derived.Test.YtamfloegflejnaaDoorRows
import GoSem.ClaimSeven
namespace Go.Proofs.YtamfloegflejnaaDoor
namespace Rows

/-- THE TIED CARD OF 'watershedlaw04.ExprNumbers'. -/
def exprNumbersCard : Claim7 := { stood := { row := exprNumbersRow, standIns := [], harness := (true, "899803d3033b7d6f78fc42635ed2c194b5c82c7555917015127d5fc3e5f6ad66"), looks := false }, kinds := [], alts := [], laidByText := true, laidKinds := [.data, .data, .data], laidTests := true, laidLooks := .later }
def ExprNumbersCardSaid : Prop := Claim7.holds Tryd.pinned (.plain (OpenSpec.ofChange exprNumbersSpec)) exprNumbersCard

/-- THE TIED CARD OF 'watershedlaw04.ExprStrings'. -/
def exprStringsCard : Claim7 := { stood := { row := exprStringsRow, standIns := [], harness := (true, "899803d3033b7d6f78fc42635ed2c194b5c82c7555917015127d5fc3e5f6ad66"), looks := false }, kinds := [], alts := [], laidByText := true, laidKinds := [.data, .data, .data], laidTests := true, laidLooks := .later }
def ExprStringsCardSaid : Prop := Claim7.holds Tryd.pinned (.plain (OpenSpec.ofChange exprStringsSpec)) exprStringsCard

/-- THE SECOND FORM's CARD OF 'watershedlaw04.ExprNumbers'. -/
def exprNumbersUptoCard : Claim7 := { stood := { row := exprNumbersUptoRow, standIns := [], harness := (true, "899803d3033b7d6f78fc42635ed2c194b5c82c7555917015127d5fc3e5f6ad66"), looks := false }, kinds := [], alts := [], laidByText := true, laidKinds := [.data, .data, .data], laidTests := true, laidLooks := .later }
def ExprNumbersUptoCardSaid : Prop := Claim7.holds Tryd.pinned (.plain (OpenSpec.upto exprNumbersSpec)) exprNumbersUptoCard

/-- THE SECOND FORM's CARD OF 'watershedlaw04.ExprStrings'. -/
def exprStringsUptoCard : Claim7 := { stood := { row := exprStringsUptoRow, standIns := [], harness := (true, "899803d3033b7d6f78fc42635ed2c194b5c82c7555917015127d5fc3e5f6ad66"), looks := false }, kinds := [], alts := [], laidByText := true, laidKinds := [.data, .data, .data], laidTests := true, laidLooks := .later }
def ExprStringsUptoCardSaid : Prop := Claim7.holds Tryd.pinned (.plain (OpenSpec.upto exprStringsSpec)) exprStringsUptoCard
end Rows
end Go.Proofs.YtamfloegflejnaaDoor
