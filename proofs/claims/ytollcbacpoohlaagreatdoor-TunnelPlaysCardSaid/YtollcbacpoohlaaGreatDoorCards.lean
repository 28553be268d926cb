/-
  DERIVED. GIVEN WITH THE SEED: THE CARDS: each row of YtollcbacpoohlaaGreatDoorRows.lean that lists a variable, with what it lists TIED to the program's text (the seventh form; the later family's looks); each row that meets fmt, with fmt's text TOLD by the authors' own Lean function (tested against real Go, not proved from fmt's source: count such statements apart). THE CARD IS WHAT COUNTS. Prove the row's statement (the work); the ties are given (YtollcbacpoohlaaGreatDoorTie.lean); close each card by the builder's one call (the guide's Derived/Test/ToyasCard.lean, 'card_holds'). Laid BY PROGRAM, IN A SANDBOX (cutbox-door.mjs). By AI agents, Wed Nov 11 2026. No macro, syntax, notation, axiom, sorry.
-/
import Derived.Test.YtollcbacpoohlaaGreatDoorRows
import GoSem.ClaimSeven
namespace Go.Proofs.YtollcbacpoohlaaGreatDoor
namespace Rows

/-- THE TIED CARD OF 'wicketgatelaw17.TunnelPlays'. -/
def tunnelPlaysCard : Claim7 := { stood := { row := tunnelPlaysRow, standIns := [], harness := (true, "9d9dbf3c62539f187148049b8cac7d8827be4103afbbd2d12acbf62ae9a5a9a9"), looks := true }, kinds := [], alts := [], laidByText := true, laidKinds := [.handle], laidTests := true, laidLooks := .later }
def TunnelPlaysCardSaid : Prop := Claim7.holds Tryz.pinned (.plain (OpenSpec.ofChange tunnelPlaysSpec)) tunnelPlaysCard

/-- THE SECOND FORM's CARD OF 'wicketgatelaw17.TunnelPlays'. -/
def tunnelPlaysUptoCard : Claim7 := { stood := { row := tunnelPlaysUptoRow, standIns := [], harness := (true, "9d9dbf3c62539f187148049b8cac7d8827be4103afbbd2d12acbf62ae9a5a9a9"), looks := true }, kinds := [], alts := [], laidByText := true, laidKinds := [.handle], laidTests := true, laidLooks := .later }
def TunnelPlaysUptoCardSaid : Prop := Claim7.holds Tryz.pinned (.plain (OpenSpec.upto tunnelPlaysSpec)) tunnelPlaysUptoCard
end Rows
end Go.Proofs.YtollcbacpoohlaaGreatDoor
