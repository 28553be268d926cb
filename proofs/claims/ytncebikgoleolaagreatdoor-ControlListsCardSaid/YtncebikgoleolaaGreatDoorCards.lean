/-
  DERIVED. GIVEN WITH THE SEED: THE CARDS: each row of YtncebikgoleolaaGreatDoorRows.lean that lists a variable, with what it lists TIED to the program's text (the seventh form; the later family's looks); each row that meets fmt, with fmt's text TOLD by the authors' own Lean function (tested against real Go, not proved from fmt's source: count such statements apart). THE CARD IS WHAT COUNTS. Prove the row's statement (the work); the ties are given (YtncebikgoleolaaGreatDoorTie.lean); close each card by the builder's one call (the guide's Derived/Test/ToyasCard.lean, 'card_holds'). Laid BY PROGRAM, IN A SANDBOX (cutbox-door.mjs). By AI agents, Wed Nov 11 2026. No macro, syntax, notation, axiom, sorry.
-/
import Derived.Test.YtncebikgoleolaaGreatDoorRows
import GoSem.ClaimSeven
namespace Go.Proofs.YtncebikgoleolaaGreatDoor
namespace Rows

/-- THE TIED CARD OF 'wicketgatelaw19.ControlLists'. -/
def controlListsCard : Claim7 := { stood := { row := controlListsRow, standIns := [], harness := (true, "dd7f32c1959a76bf46b3062965ebd43ad50527f473b9a7f2776f8a1a0e13ef81"), looks := true }, kinds := [], alts := [], laidByText := true, laidKinds := [.data, .data, .data, .handle, .sentinel, .sentinel, .sentinel, .sentinel, .sentinel, .sentinel, .sentinel, .sentinel, .data, .sentinel, .sentinel, .sentinel], laidTests := true, laidLooks := .later }
def ControlListsCardSaid : Prop := Claim7.holds Tryz.pinned (.plain (OpenSpec.ofChange controlListsSpec)) controlListsCard

/-- THE TIED CARD OF 'wicketgatelaw19.ControlCalls'. -/
def controlCallsCard : Claim7 := { stood := { row := controlCallsRow, standIns := [], harness := (true, "dd7f32c1959a76bf46b3062965ebd43ad50527f473b9a7f2776f8a1a0e13ef81"), looks := true }, kinds := [], alts := [], laidByText := true, laidKinds := [.data, .data, .data, .handle, .sentinel, .sentinel, .sentinel, .sentinel, .sentinel, .sentinel, .sentinel, .sentinel, .data, .sentinel, .sentinel, .sentinel], laidTests := true, laidLooks := .later }
def ControlCallsCardSaid : Prop := Claim7.holds Tryz.pinned (.plain (OpenSpec.ofChange controlCallsSpec)) controlCallsCard

/-- THE TIED CARD OF 'wicketgatelaw19.ControlOrder'. -/
def controlOrderCard : Claim7 := { stood := { row := controlOrderRow, standIns := [], harness := (true, "dd7f32c1959a76bf46b3062965ebd43ad50527f473b9a7f2776f8a1a0e13ef81"), looks := true }, kinds := [], alts := [], laidByText := true, laidKinds := [.data, .data, .data, .handle, .sentinel, .sentinel, .sentinel, .sentinel, .sentinel, .sentinel, .sentinel, .sentinel, .data, .sentinel, .sentinel, .sentinel], laidTests := true, laidLooks := .later }
def ControlOrderCardSaid : Prop := Claim7.holds Tryz.pinned (.plain (OpenSpec.ofChange controlOrderSpec)) controlOrderCard

/-- THE SECOND FORM's CARD OF 'wicketgatelaw19.ControlLists'. -/
def controlListsUptoCard : Claim7 := { stood := { row := controlListsUptoRow, standIns := [], harness := (true, "dd7f32c1959a76bf46b3062965ebd43ad50527f473b9a7f2776f8a1a0e13ef81"), looks := true }, kinds := [], alts := [], laidByText := true, laidKinds := [.data, .data, .data, .handle, .sentinel, .sentinel, .sentinel, .sentinel, .sentinel, .sentinel, .sentinel, .sentinel, .data, .sentinel, .sentinel, .sentinel], laidTests := true, laidLooks := .later }
def ControlListsUptoCardSaid : Prop := Claim7.holds Tryz.pinned (.plain (OpenSpec.upto controlListsSpec)) controlListsUptoCard

/-- THE SECOND FORM's CARD OF 'wicketgatelaw19.ControlCalls'. -/
def controlCallsUptoCard : Claim7 := { stood := { row := controlCallsUptoRow, standIns := [], harness := (true, "dd7f32c1959a76bf46b3062965ebd43ad50527f473b9a7f2776f8a1a0e13ef81"), looks := true }, kinds := [], alts := [], laidByText := true, laidKinds := [.data, .data, .data, .handle, .sentinel, .sentinel, .sentinel, .sentinel, .sentinel, .sentinel, .sentinel, .sentinel, .data, .sentinel, .sentinel, .sentinel], laidTests := true, laidLooks := .later }
def ControlCallsUptoCardSaid : Prop := Claim7.holds Tryz.pinned (.plain (OpenSpec.upto controlCallsSpec)) controlCallsUptoCard

/-- THE SECOND FORM's CARD OF 'wicketgatelaw19.ControlOrder'. -/
def controlOrderUptoCard : Claim7 := { stood := { row := controlOrderUptoRow, standIns := [], harness := (true, "dd7f32c1959a76bf46b3062965ebd43ad50527f473b9a7f2776f8a1a0e13ef81"), looks := true }, kinds := [], alts := [], laidByText := true, laidKinds := [.data, .data, .data, .handle, .sentinel, .sentinel, .sentinel, .sentinel, .sentinel, .sentinel, .sentinel, .sentinel, .data, .sentinel, .sentinel, .sentinel], laidTests := true, laidLooks := .later }
def ControlOrderUptoCardSaid : Prop := Claim7.holds Tryz.pinned (.plain (OpenSpec.upto controlOrderSpec)) controlOrderUptoCard
end Rows
end Go.Proofs.YtncebikgoleolaaGreatDoor
