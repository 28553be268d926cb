/-
  DERIVED. GIVEN WITH THE SEED: THE CARDS: each row of YtjieiikpolahfaaGreatDoorRows.lean that lists a variable, with what it lists TIED to the program's text (the seventh form; the later family's looks); each row that meets fmt, with fmt's text TOLD by the authors' own Lean function (tested against real Go, not proved from fmt's source: count such statements apart). THE CARD IS WHAT COUNTS. Prove the row's statement (the work); the ties are given (YtjieiikpolahfaaGreatDoorTie.lean); close each card by the builder's one call (the guide's Derived/Test/ToyasCard.lean, 'card_holds'). Laid BY PROGRAM, IN A SANDBOX (cutbox-door.mjs). By AI agents, Wed Nov 11 2026. No macro, syntax, notation, axiom, sorry.
-/
import Derived.Test.YtjieiikpolahfaaGreatDoorRows
import GoSem.ClaimSeven
namespace Go.Proofs.YtjieiikpolahfaaGreatDoor
namespace Rows

/-- THE TIED CARD OF 'wicketgatelaw19.ControlBound'. -/
def controlBoundCard : Claim7 := { stood := { row := controlBoundRow, standIns := [], harness := (true, "9d4973d1f79925bda66def5f531134a83d5180b9df96d65c859a6aae5ae06539"), looks := true }, kinds := [], alts := [], laidByText := true, laidKinds := [.data, .data, .data, .handle, .sentinel, .sentinel, .sentinel, .sentinel, .sentinel, .sentinel, .sentinel, .sentinel, .data, .sentinel, .sentinel, .sentinel], laidTests := true, laidLooks := .later }
def ControlBoundCardSaid : Prop := Claim7.holds Tryz.pinned (.plain (OpenSpec.ofChange controlBoundSpec)) controlBoundCard

/-- THE TIED CARD OF 'wicketgatelaw19.ControlAgain'. -/
def controlAgainCard : Claim7 := { stood := { row := controlAgainRow, standIns := [], harness := (true, "9d4973d1f79925bda66def5f531134a83d5180b9df96d65c859a6aae5ae06539"), looks := true }, kinds := [], alts := [], laidByText := true, laidKinds := [.data, .data, .data, .handle, .sentinel, .sentinel, .sentinel, .sentinel, .sentinel, .sentinel, .sentinel, .sentinel, .data, .sentinel, .sentinel, .sentinel], laidTests := true, laidLooks := .later }
def ControlAgainCardSaid : Prop := Claim7.holds Tryz.pinned (.plain (OpenSpec.ofChange controlAgainSpec)) controlAgainCard

/-- THE TIED CARD OF 'wicketgatelaw19.ControlRoles'. -/
def controlRolesCard : Claim7 := { stood := { row := controlRolesRow, standIns := [], harness := (true, "9d4973d1f79925bda66def5f531134a83d5180b9df96d65c859a6aae5ae06539"), looks := true }, kinds := [], alts := [], laidByText := true, laidKinds := [.data, .data, .data, .handle, .sentinel, .sentinel, .sentinel, .sentinel, .sentinel, .sentinel, .sentinel, .sentinel, .data, .sentinel, .sentinel, .sentinel], laidTests := true, laidLooks := .later }
def ControlRolesCardSaid : Prop := Claim7.holds Tryz.pinned (.plain (OpenSpec.ofChange controlRolesSpec)) controlRolesCard

/-- THE TIED CARD OF 'wicketgatelaw19.ControlReplies'. -/
def controlRepliesCard : Claim7 := { stood := { row := controlRepliesRow, standIns := [], harness := (true, "9d4973d1f79925bda66def5f531134a83d5180b9df96d65c859a6aae5ae06539"), looks := true }, kinds := [], alts := [], laidByText := true, laidKinds := [.data, .data, .data, .handle, .sentinel, .sentinel, .sentinel, .sentinel, .sentinel, .sentinel, .sentinel, .sentinel, .data, .sentinel, .sentinel, .sentinel], laidTests := true, laidLooks := .later }
def ControlRepliesCardSaid : Prop := Claim7.holds Tryz.pinned (.plain (OpenSpec.ofChange controlRepliesSpec)) controlRepliesCard

/-- THE TIED CARD OF 'wicketgatelaw19.ControlDone'. -/
def controlDoneCard : Claim7 := { stood := { row := controlDoneRow, standIns := [], harness := (true, "9d4973d1f79925bda66def5f531134a83d5180b9df96d65c859a6aae5ae06539"), looks := true }, kinds := [], alts := [], laidByText := true, laidKinds := [.data, .data, .data, .handle, .sentinel, .sentinel, .sentinel, .sentinel, .sentinel, .sentinel, .sentinel, .sentinel, .data, .sentinel, .sentinel, .sentinel], laidTests := true, laidLooks := .later }
def ControlDoneCardSaid : Prop := Claim7.holds Tryz.pinned (.plain (OpenSpec.ofChange controlDoneSpec)) controlDoneCard

/-- THE SECOND FORM's CARD OF 'wicketgatelaw19.ControlBound'. -/
def controlBoundUptoCard : Claim7 := { stood := { row := controlBoundUptoRow, standIns := [], harness := (true, "9d4973d1f79925bda66def5f531134a83d5180b9df96d65c859a6aae5ae06539"), looks := true }, kinds := [], alts := [], laidByText := true, laidKinds := [.data, .data, .data, .handle, .sentinel, .sentinel, .sentinel, .sentinel, .sentinel, .sentinel, .sentinel, .sentinel, .data, .sentinel, .sentinel, .sentinel], laidTests := true, laidLooks := .later }
def ControlBoundUptoCardSaid : Prop := Claim7.holds Tryz.pinned (.plain (OpenSpec.upto controlBoundSpec)) controlBoundUptoCard

/-- THE SECOND FORM's CARD OF 'wicketgatelaw19.ControlAgain'. -/
def controlAgainUptoCard : Claim7 := { stood := { row := controlAgainUptoRow, standIns := [], harness := (true, "9d4973d1f79925bda66def5f531134a83d5180b9df96d65c859a6aae5ae06539"), looks := true }, kinds := [], alts := [], laidByText := true, laidKinds := [.data, .data, .data, .handle, .sentinel, .sentinel, .sentinel, .sentinel, .sentinel, .sentinel, .sentinel, .sentinel, .data, .sentinel, .sentinel, .sentinel], laidTests := true, laidLooks := .later }
def ControlAgainUptoCardSaid : Prop := Claim7.holds Tryz.pinned (.plain (OpenSpec.upto controlAgainSpec)) controlAgainUptoCard

/-- THE SECOND FORM's CARD OF 'wicketgatelaw19.ControlRoles'. -/
def controlRolesUptoCard : Claim7 := { stood := { row := controlRolesUptoRow, standIns := [], harness := (true, "9d4973d1f79925bda66def5f531134a83d5180b9df96d65c859a6aae5ae06539"), looks := true }, kinds := [], alts := [], laidByText := true, laidKinds := [.data, .data, .data, .handle, .sentinel, .sentinel, .sentinel, .sentinel, .sentinel, .sentinel, .sentinel, .sentinel, .data, .sentinel, .sentinel, .sentinel], laidTests := true, laidLooks := .later }
def ControlRolesUptoCardSaid : Prop := Claim7.holds Tryz.pinned (.plain (OpenSpec.upto controlRolesSpec)) controlRolesUptoCard

/-- THE SECOND FORM's CARD OF 'wicketgatelaw19.ControlReplies'. -/
def controlRepliesUptoCard : Claim7 := { stood := { row := controlRepliesUptoRow, standIns := [], harness := (true, "9d4973d1f79925bda66def5f531134a83d5180b9df96d65c859a6aae5ae06539"), looks := true }, kinds := [], alts := [], laidByText := true, laidKinds := [.data, .data, .data, .handle, .sentinel, .sentinel, .sentinel, .sentinel, .sentinel, .sentinel, .sentinel, .sentinel, .data, .sentinel, .sentinel, .sentinel], laidTests := true, laidLooks := .later }
def ControlRepliesUptoCardSaid : Prop := Claim7.holds Tryz.pinned (.plain (OpenSpec.upto controlRepliesSpec)) controlRepliesUptoCard

/-- THE SECOND FORM's CARD OF 'wicketgatelaw19.ControlDone'. -/
def controlDoneUptoCard : Claim7 := { stood := { row := controlDoneUptoRow, standIns := [], harness := (true, "9d4973d1f79925bda66def5f531134a83d5180b9df96d65c859a6aae5ae06539"), looks := true }, kinds := [], alts := [], laidByText := true, laidKinds := [.data, .data, .data, .handle, .sentinel, .sentinel, .sentinel, .sentinel, .sentinel, .sentinel, .sentinel, .sentinel, .data, .sentinel, .sentinel, .sentinel], laidTests := true, laidLooks := .later }
def ControlDoneUptoCardSaid : Prop := Claim7.holds Tryz.pinned (.plain (OpenSpec.upto controlDoneSpec)) controlDoneUptoCard
end Rows
end Go.Proofs.YtjieiikpolahfaaGreatDoor
