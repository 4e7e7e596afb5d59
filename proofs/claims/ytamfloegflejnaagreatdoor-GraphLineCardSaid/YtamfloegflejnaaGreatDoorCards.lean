/-
  DERIVED. GIVEN WITH THE SEED: THE CARDS: each row of YtamfloegflejnaaGreatDoorRows.lean that lists a variable, with what it lists TIED to the program's text (the seventh form; the later family's looks); each row that meets fmt, with fmt's text TOLD by the authors' own Lean function (tested against real Go, not proved from fmt's source: count such statements apart). THE CARD IS WHAT COUNTS. Prove the row's statement (the work); the ties are given (YtamfloegflejnaaGreatDoorTie.lean); close each card by the builder's one call (the guide's Derived/Test/ToyasCard.lean, 'card_holds'). Laid BY PROGRAM, IN A SANDBOX (cutbox-door.mjs). By AI agents, Wed Nov 11 2026. No macro, syntax, notation, axiom, sorry.
-/
import Derived.Test.YtamfloegflejnaaGreatDoorRows
import GoSem.ClaimSeven
namespace Go.Proofs.YtamfloegflejnaaGreatDoor
namespace Rows

/-- THE TIED CARD OF 'watershedlaw11.GraphLine'. -/
def graphLineCard : Claim7 := { stood := { row := graphLineRow, standIns := [], harness := (true, "c17677df2d8ddd0f83a8ddeb518fc648f7b2e174439b31c4ea9cbc304c15fee5"), looks := true }, kinds := [], alts := [], laidByText := true, laidKinds := [.data, .data, .data, .data, .sentinel, .sentinel, .pinned], laidTests := true, laidLooks := .later }
def GraphLineCardSaid : Prop := Claim7.holds Tryz.pinned (.plain (OpenSpec.ofChange graphLineSpec)) graphLineCard

/-- THE TIED CARD OF 'watershedlaw11.GraphLines'. -/
def graphLinesCard : Claim7 := { stood := { row := graphLinesRow, standIns := [], harness := (true, "c17677df2d8ddd0f83a8ddeb518fc648f7b2e174439b31c4ea9cbc304c15fee5"), looks := true }, kinds := [], alts := [], laidByText := true, laidKinds := [.data, .data, .data, .data, .sentinel, .sentinel, .pinned], laidTests := true, laidLooks := .later }
def GraphLinesCardSaid : Prop := Claim7.holds Tryz.pinned (.plain (OpenSpec.ofChange graphLinesSpec)) graphLinesCard

/-- THE SECOND FORM's CARD OF 'watershedlaw11.GraphLine'. -/
def graphLineUptoCard : Claim7 := { stood := { row := graphLineUptoRow, standIns := [], harness := (true, "c17677df2d8ddd0f83a8ddeb518fc648f7b2e174439b31c4ea9cbc304c15fee5"), looks := true }, kinds := [], alts := [], laidByText := true, laidKinds := [.data, .data, .data, .data, .sentinel, .sentinel, .pinned], laidTests := true, laidLooks := .later }
def GraphLineUptoCardSaid : Prop := Claim7.holds Tryz.pinned (.plain (OpenSpec.upto graphLineSpec)) graphLineUptoCard

/-- THE SECOND FORM's CARD OF 'watershedlaw11.GraphLines'. -/
def graphLinesUptoCard : Claim7 := { stood := { row := graphLinesUptoRow, standIns := [], harness := (true, "c17677df2d8ddd0f83a8ddeb518fc648f7b2e174439b31c4ea9cbc304c15fee5"), looks := true }, kinds := [], alts := [], laidByText := true, laidKinds := [.data, .data, .data, .data, .sentinel, .sentinel, .pinned], laidTests := true, laidLooks := .later }
def GraphLinesUptoCardSaid : Prop := Claim7.holds Tryz.pinned (.plain (OpenSpec.upto graphLinesSpec)) graphLinesUptoCard
end Rows
end Go.Proofs.YtamfloegflejnaaGreatDoor
