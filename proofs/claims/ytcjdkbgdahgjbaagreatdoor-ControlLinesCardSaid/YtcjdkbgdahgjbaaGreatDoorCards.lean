/-
  DERIVED. GIVEN WITH THE SEED: THE CARDS: each row of YtcjdkbgdahgjbaaGreatDoorRows.lean that lists a variable, with what it lists TIED to the program's text (the seventh form; the later family's looks); each row that meets fmt, with fmt's text TOLD by the authors' own Lean function (tested against real Go, not proved from fmt's source: count such statements apart). THE CARD IS WHAT COUNTS. Prove the row's statement (the work); the ties are given (YtcjdkbgdahgjbaaGreatDoorTie.lean); close each card by the builder's one call (the guide's Derived/Test/ToyasCard.lean, 'card_holds'). Laid BY PROGRAM, IN A SANDBOX (cutbox-door.mjs). By AI agents, Wed Nov 11 2026. No macro, syntax, notation, axiom, sorry.
-/
import Derived.Test.YtcjdkbgdahgjbaaGreatDoorRows
import GoSem.ClaimSeven
namespace Go.Proofs.YtcjdkbgdahgjbaaGreatDoor
namespace Rows

/-- THE TIED CARD OF 'wicketgatelaw19.ControlLists'. -/
def controlListsCard : Claim7 := { stood := { row := controlListsRow, standIns := [], harness := (true, "0f9566b8570ac9c117c6c298b8092e6a3c507f5e2cc2cf10fa5788a11bd9e403"), looks := true }, kinds := [], alts := [], laidByText := true, laidKinds := [.data, .data, .data, .handle, .sentinel, .sentinel, .sentinel, .sentinel, .sentinel, .sentinel, .sentinel, .sentinel, .data, .sentinel, .sentinel, .sentinel], laidTests := true, laidLooks := .later }
def ControlListsCardSaid : Prop := Claim7.holds Tryz.pinned (.plain (OpenSpec.ofChange controlListsSpec)) controlListsCard

/-- THE TIED CARD OF 'wicketgatelaw19.ControlLines'. -/
def controlLinesCard : Claim7 := { stood := { row := controlLinesRow, standIns := [], harness := (true, "0f9566b8570ac9c117c6c298b8092e6a3c507f5e2cc2cf10fa5788a11bd9e403"), looks := true }, kinds := [], alts := [], laidByText := true, laidKinds := [.data, .data, .data, .handle, .sentinel, .sentinel, .sentinel, .sentinel, .sentinel, .sentinel, .sentinel, .sentinel, .data, .sentinel, .sentinel, .sentinel], laidTests := true, laidLooks := .later }
def ControlLinesCardSaid : Prop := Claim7.holds Tryz.pinned (.plain (OpenSpec.ofChange controlLinesSpec)) controlLinesCard

/-- THE TIED CARD OF 'wicketgatelaw19.ControlBound'. -/
def controlBoundCard : Claim7 := { stood := { row := controlBoundRow, standIns := [], harness := (true, "0f9566b8570ac9c117c6c298b8092e6a3c507f5e2cc2cf10fa5788a11bd9e403"), looks := true }, kinds := [], alts := [], laidByText := true, laidKinds := [.data, .data, .data, .handle, .sentinel, .sentinel, .sentinel, .sentinel, .sentinel, .sentinel, .sentinel, .sentinel, .data, .sentinel, .sentinel, .sentinel], laidTests := true, laidLooks := .later }
def ControlBoundCardSaid : Prop := Claim7.holds Tryz.pinned (.plain (OpenSpec.ofChange controlBoundSpec)) controlBoundCard

/-- THE TIED CARD OF 'wicketgatelaw19.ControlCalls'. -/
def controlCallsCard : Claim7 := { stood := { row := controlCallsRow, standIns := [], harness := (true, "0f9566b8570ac9c117c6c298b8092e6a3c507f5e2cc2cf10fa5788a11bd9e403"), looks := true }, kinds := [], alts := [], laidByText := true, laidKinds := [.data, .data, .data, .handle, .sentinel, .sentinel, .sentinel, .sentinel, .sentinel, .sentinel, .sentinel, .sentinel, .data, .sentinel, .sentinel, .sentinel], laidTests := true, laidLooks := .later }
def ControlCallsCardSaid : Prop := Claim7.holds Tryz.pinned (.plain (OpenSpec.ofChange controlCallsSpec)) controlCallsCard

/-- THE TIED CARD OF 'wicketgatelaw19.ControlTicks'. -/
def controlTicksCard : Claim7 := { stood := { row := controlTicksRow, standIns := [], harness := (true, "0f9566b8570ac9c117c6c298b8092e6a3c507f5e2cc2cf10fa5788a11bd9e403"), looks := true }, kinds := [], alts := [], laidByText := true, laidKinds := [.data, .data, .data, .handle, .sentinel, .sentinel, .sentinel, .sentinel, .sentinel, .sentinel, .sentinel, .sentinel, .data, .sentinel, .sentinel, .sentinel], laidTests := true, laidLooks := .later }
def ControlTicksCardSaid : Prop := Claim7.holds Tryz.pinned (.plain (OpenSpec.ofChange controlTicksSpec)) controlTicksCard

/-- THE TIED CARD OF 'wicketgatelaw19.ControlAgain'. -/
def controlAgainCard : Claim7 := { stood := { row := controlAgainRow, standIns := [], harness := (true, "0f9566b8570ac9c117c6c298b8092e6a3c507f5e2cc2cf10fa5788a11bd9e403"), looks := true }, kinds := [], alts := [], laidByText := true, laidKinds := [.data, .data, .data, .handle, .sentinel, .sentinel, .sentinel, .sentinel, .sentinel, .sentinel, .sentinel, .sentinel, .data, .sentinel, .sentinel, .sentinel], laidTests := true, laidLooks := .later }
def ControlAgainCardSaid : Prop := Claim7.holds Tryz.pinned (.plain (OpenSpec.ofChange controlAgainSpec)) controlAgainCard

/-- THE TIED CARD OF 'wicketgatelaw19.ControlRoles'. -/
def controlRolesCard : Claim7 := { stood := { row := controlRolesRow, standIns := [], harness := (true, "0f9566b8570ac9c117c6c298b8092e6a3c507f5e2cc2cf10fa5788a11bd9e403"), looks := true }, kinds := [], alts := [], laidByText := true, laidKinds := [.data, .data, .data, .handle, .sentinel, .sentinel, .sentinel, .sentinel, .sentinel, .sentinel, .sentinel, .sentinel, .data, .sentinel, .sentinel, .sentinel], laidTests := true, laidLooks := .later }
def ControlRolesCardSaid : Prop := Claim7.holds Tryz.pinned (.plain (OpenSpec.ofChange controlRolesSpec)) controlRolesCard

/-- THE TIED CARD OF 'wicketgatelaw19.ControlReplies'. -/
def controlRepliesCard : Claim7 := { stood := { row := controlRepliesRow, standIns := [], harness := (true, "0f9566b8570ac9c117c6c298b8092e6a3c507f5e2cc2cf10fa5788a11bd9e403"), looks := true }, kinds := [], alts := [], laidByText := true, laidKinds := [.data, .data, .data, .handle, .sentinel, .sentinel, .sentinel, .sentinel, .sentinel, .sentinel, .sentinel, .sentinel, .data, .sentinel, .sentinel, .sentinel], laidTests := true, laidLooks := .later }
def ControlRepliesCardSaid : Prop := Claim7.holds Tryz.pinned (.plain (OpenSpec.ofChange controlRepliesSpec)) controlRepliesCard

/-- THE TIED CARD OF 'wicketgatelaw19.ControlDone'. -/
def controlDoneCard : Claim7 := { stood := { row := controlDoneRow, standIns := [], harness := (true, "0f9566b8570ac9c117c6c298b8092e6a3c507f5e2cc2cf10fa5788a11bd9e403"), looks := true }, kinds := [], alts := [], laidByText := true, laidKinds := [.data, .data, .data, .handle, .sentinel, .sentinel, .sentinel, .sentinel, .sentinel, .sentinel, .sentinel, .sentinel, .data, .sentinel, .sentinel, .sentinel], laidTests := true, laidLooks := .later }
def ControlDoneCardSaid : Prop := Claim7.holds Tryz.pinned (.plain (OpenSpec.ofChange controlDoneSpec)) controlDoneCard

/-- THE TIED CARD OF 'wicketgatelaw19.ControlOrder'. -/
def controlOrderCard : Claim7 := { stood := { row := controlOrderRow, standIns := [], harness := (true, "0f9566b8570ac9c117c6c298b8092e6a3c507f5e2cc2cf10fa5788a11bd9e403"), looks := true }, kinds := [], alts := [], laidByText := true, laidKinds := [.data, .data, .data, .handle, .sentinel, .sentinel, .sentinel, .sentinel, .sentinel, .sentinel, .sentinel, .sentinel, .data, .sentinel, .sentinel, .sentinel], laidTests := true, laidLooks := .later }
def ControlOrderCardSaid : Prop := Claim7.holds Tryz.pinned (.plain (OpenSpec.ofChange controlOrderSpec)) controlOrderCard

/-- THE SECOND FORM's CARD OF 'wicketgatelaw19.ControlLists'. -/
def controlListsUptoCard : Claim7 := { stood := { row := controlListsUptoRow, standIns := [], harness := (true, "0f9566b8570ac9c117c6c298b8092e6a3c507f5e2cc2cf10fa5788a11bd9e403"), looks := true }, kinds := [], alts := [], laidByText := true, laidKinds := [.data, .data, .data, .handle, .sentinel, .sentinel, .sentinel, .sentinel, .sentinel, .sentinel, .sentinel, .sentinel, .data, .sentinel, .sentinel, .sentinel], laidTests := true, laidLooks := .later }
def ControlListsUptoCardSaid : Prop := Claim7.holds Tryz.pinned (.plain (OpenSpec.upto controlListsSpec)) controlListsUptoCard

/-- THE SECOND FORM's CARD OF 'wicketgatelaw19.ControlLines'. -/
def controlLinesUptoCard : Claim7 := { stood := { row := controlLinesUptoRow, standIns := [], harness := (true, "0f9566b8570ac9c117c6c298b8092e6a3c507f5e2cc2cf10fa5788a11bd9e403"), looks := true }, kinds := [], alts := [], laidByText := true, laidKinds := [.data, .data, .data, .handle, .sentinel, .sentinel, .sentinel, .sentinel, .sentinel, .sentinel, .sentinel, .sentinel, .data, .sentinel, .sentinel, .sentinel], laidTests := true, laidLooks := .later }
def ControlLinesUptoCardSaid : Prop := Claim7.holds Tryz.pinned (.plain (OpenSpec.upto controlLinesSpec)) controlLinesUptoCard

/-- THE SECOND FORM's CARD OF 'wicketgatelaw19.ControlBound'. -/
def controlBoundUptoCard : Claim7 := { stood := { row := controlBoundUptoRow, standIns := [], harness := (true, "0f9566b8570ac9c117c6c298b8092e6a3c507f5e2cc2cf10fa5788a11bd9e403"), looks := true }, kinds := [], alts := [], laidByText := true, laidKinds := [.data, .data, .data, .handle, .sentinel, .sentinel, .sentinel, .sentinel, .sentinel, .sentinel, .sentinel, .sentinel, .data, .sentinel, .sentinel, .sentinel], laidTests := true, laidLooks := .later }
def ControlBoundUptoCardSaid : Prop := Claim7.holds Tryz.pinned (.plain (OpenSpec.upto controlBoundSpec)) controlBoundUptoCard

/-- THE SECOND FORM's CARD OF 'wicketgatelaw19.ControlCalls'. -/
def controlCallsUptoCard : Claim7 := { stood := { row := controlCallsUptoRow, standIns := [], harness := (true, "0f9566b8570ac9c117c6c298b8092e6a3c507f5e2cc2cf10fa5788a11bd9e403"), looks := true }, kinds := [], alts := [], laidByText := true, laidKinds := [.data, .data, .data, .handle, .sentinel, .sentinel, .sentinel, .sentinel, .sentinel, .sentinel, .sentinel, .sentinel, .data, .sentinel, .sentinel, .sentinel], laidTests := true, laidLooks := .later }
def ControlCallsUptoCardSaid : Prop := Claim7.holds Tryz.pinned (.plain (OpenSpec.upto controlCallsSpec)) controlCallsUptoCard

/-- THE SECOND FORM's CARD OF 'wicketgatelaw19.ControlTicks'. -/
def controlTicksUptoCard : Claim7 := { stood := { row := controlTicksUptoRow, standIns := [], harness := (true, "0f9566b8570ac9c117c6c298b8092e6a3c507f5e2cc2cf10fa5788a11bd9e403"), looks := true }, kinds := [], alts := [], laidByText := true, laidKinds := [.data, .data, .data, .handle, .sentinel, .sentinel, .sentinel, .sentinel, .sentinel, .sentinel, .sentinel, .sentinel, .data, .sentinel, .sentinel, .sentinel], laidTests := true, laidLooks := .later }
def ControlTicksUptoCardSaid : Prop := Claim7.holds Tryz.pinned (.plain (OpenSpec.upto controlTicksSpec)) controlTicksUptoCard

/-- THE SECOND FORM's CARD OF 'wicketgatelaw19.ControlAgain'. -/
def controlAgainUptoCard : Claim7 := { stood := { row := controlAgainUptoRow, standIns := [], harness := (true, "0f9566b8570ac9c117c6c298b8092e6a3c507f5e2cc2cf10fa5788a11bd9e403"), looks := true }, kinds := [], alts := [], laidByText := true, laidKinds := [.data, .data, .data, .handle, .sentinel, .sentinel, .sentinel, .sentinel, .sentinel, .sentinel, .sentinel, .sentinel, .data, .sentinel, .sentinel, .sentinel], laidTests := true, laidLooks := .later }
def ControlAgainUptoCardSaid : Prop := Claim7.holds Tryz.pinned (.plain (OpenSpec.upto controlAgainSpec)) controlAgainUptoCard

/-- THE SECOND FORM's CARD OF 'wicketgatelaw19.ControlRoles'. -/
def controlRolesUptoCard : Claim7 := { stood := { row := controlRolesUptoRow, standIns := [], harness := (true, "0f9566b8570ac9c117c6c298b8092e6a3c507f5e2cc2cf10fa5788a11bd9e403"), looks := true }, kinds := [], alts := [], laidByText := true, laidKinds := [.data, .data, .data, .handle, .sentinel, .sentinel, .sentinel, .sentinel, .sentinel, .sentinel, .sentinel, .sentinel, .data, .sentinel, .sentinel, .sentinel], laidTests := true, laidLooks := .later }
def ControlRolesUptoCardSaid : Prop := Claim7.holds Tryz.pinned (.plain (OpenSpec.upto controlRolesSpec)) controlRolesUptoCard

/-- THE SECOND FORM's CARD OF 'wicketgatelaw19.ControlReplies'. -/
def controlRepliesUptoCard : Claim7 := { stood := { row := controlRepliesUptoRow, standIns := [], harness := (true, "0f9566b8570ac9c117c6c298b8092e6a3c507f5e2cc2cf10fa5788a11bd9e403"), looks := true }, kinds := [], alts := [], laidByText := true, laidKinds := [.data, .data, .data, .handle, .sentinel, .sentinel, .sentinel, .sentinel, .sentinel, .sentinel, .sentinel, .sentinel, .data, .sentinel, .sentinel, .sentinel], laidTests := true, laidLooks := .later }
def ControlRepliesUptoCardSaid : Prop := Claim7.holds Tryz.pinned (.plain (OpenSpec.upto controlRepliesSpec)) controlRepliesUptoCard

/-- THE SECOND FORM's CARD OF 'wicketgatelaw19.ControlDone'. -/
def controlDoneUptoCard : Claim7 := { stood := { row := controlDoneUptoRow, standIns := [], harness := (true, "0f9566b8570ac9c117c6c298b8092e6a3c507f5e2cc2cf10fa5788a11bd9e403"), looks := true }, kinds := [], alts := [], laidByText := true, laidKinds := [.data, .data, .data, .handle, .sentinel, .sentinel, .sentinel, .sentinel, .sentinel, .sentinel, .sentinel, .sentinel, .data, .sentinel, .sentinel, .sentinel], laidTests := true, laidLooks := .later }
def ControlDoneUptoCardSaid : Prop := Claim7.holds Tryz.pinned (.plain (OpenSpec.upto controlDoneSpec)) controlDoneUptoCard

/-- THE SECOND FORM's CARD OF 'wicketgatelaw19.ControlOrder'. -/
def controlOrderUptoCard : Claim7 := { stood := { row := controlOrderUptoRow, standIns := [], harness := (true, "0f9566b8570ac9c117c6c298b8092e6a3c507f5e2cc2cf10fa5788a11bd9e403"), looks := true }, kinds := [], alts := [], laidByText := true, laidKinds := [.data, .data, .data, .handle, .sentinel, .sentinel, .sentinel, .sentinel, .sentinel, .sentinel, .sentinel, .sentinel, .data, .sentinel, .sentinel, .sentinel], laidTests := true, laidLooks := .later }
def ControlOrderUptoCardSaid : Prop := Claim7.holds Tryz.pinned (.plain (OpenSpec.upto controlOrderSpec)) controlOrderUptoCard
end Rows
end Go.Proofs.YtcjdkbgdahgjbaaGreatDoor
