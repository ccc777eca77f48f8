/-
  DERIVED. GIVEN WITH THE SEED: THE CARDS: each row of YtccbadojfbdegaaGreatDoorRows.lean that lists a variable, with what it lists TIED to the program's text (the seventh form; the later family's looks); each row that meets fmt, with fmt's text TOLD by the authors' own Lean function (tested against real Go, not proved from fmt's source: count such statements apart). THE CARD IS WHAT COUNTS. Prove the row's statement (the work); the ties are given (YtccbadojfbdegaaGreatDoorTie.lean); close each card by the builder's one call (the guide's Derived/Test/ToyasCard.lean, 'card_holds'). Laid BY PROGRAM, IN A SANDBOX (cutbox-door.mjs). By AI agents, Wed Nov 11 2026. No macro, syntax, notation, axiom, sorry.
-/
import Derived.Test.YtccbadojfbdegaaGreatDoorRows
import GoSem.ClaimSeven
namespace Go.Proofs.YtccbadojfbdegaaGreatDoor
namespace Rows

/-- THE TIED CARD OF 'foyertop.TopReveals'. -/
def topRevealsCard : Claim7 := { stood := { row := topRevealsRow, standIns := [], harness := (true, "ccde7f4837d8d56d7dfc5b572af7284141f8330f2ec11e66bba4ad6612caa58a"), looks := true }, kinds := [], alts := [], laidByText := true, laidKinds := [.data, .data, .data, .data, .sentinel, .sentinel, .data, .pinned], laidTests := true, laidLooks := .later }
def TopRevealsCardSaid : Prop := Claim7.holds Tryz.pinned (.plain (OpenSpec.ofChange topRevealsSpec)) topRevealsCard

/-- THE SECOND FORM's CARD OF 'foyertop.TopReveals'. -/
def topRevealsUptoCard : Claim7 := { stood := { row := topRevealsUptoRow, standIns := [], harness := (true, "ccde7f4837d8d56d7dfc5b572af7284141f8330f2ec11e66bba4ad6612caa58a"), looks := true }, kinds := [], alts := [], laidByText := true, laidKinds := [.data, .data, .data, .data, .sentinel, .sentinel, .data, .pinned], laidTests := true, laidLooks := .later }
def TopRevealsUptoCardSaid : Prop := Claim7.holds Tryz.pinned (.plain (OpenSpec.upto topRevealsSpec)) topRevealsUptoCard
end Rows
end Go.Proofs.YtccbadojfbdegaaGreatDoor
