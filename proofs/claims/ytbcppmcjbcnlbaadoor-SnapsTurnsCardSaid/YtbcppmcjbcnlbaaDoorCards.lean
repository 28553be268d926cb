/-
  DERIVED. GIVEN WITH THE SEED: THE CARDS: each row of YtbcppmcjbcnlbaaDoorRows.lean that lists a variable, with what it lists TIED to the program's text (the seventh form; the later family's looks); each row that meets fmt, with fmt's text TOLD by the authors' own Lean function (tested against real Go, not proved from fmt's source: count such statements apart). THE CARD IS WHAT COUNTS. Prove the row's statement (the work); the ties are given (YtbcppmcjbcnlbaaDoorTie.lean); close each card by the builder's one call (the guide's Derived/Test/ToyasCard.lean, 'card_holds'). Laid BY PROGRAM, IN A SANDBOX (cutbox-door.mjs). By AI agents, Wed Nov 11 2026. No macro, syntax, notation, axiom, sorry.
-/
import Derived.Test.YtbcppmcjbcnlbaaDoorRows
import GoSem.ClaimSeven
namespace Go.Proofs.YtbcppmcjbcnlbaaDoor
namespace Rows

/-- THE TIED CARD OF 'wicketgatelaw16.SnapsWalk'. -/
def snapsWalkCard : Claim7 := { stood := { row := snapsWalkRow, standIns := [], harness := (true, "2333ad25e9266990b88d86769e0442bc542cba22204b1d59600043920aaa0807"), looks := true }, kinds := [], alts := [], laidByText := true, laidKinds := [.sentinel, .sentinel, .sentinel], laidTests := true, laidLooks := .later }
def SnapsWalkCardSaid : Prop := Claim7.holds Tryd.pinned (.plain (OpenSpec.ofChange snapsWalkSpec)) snapsWalkCard

/-- THE TIED CARD OF 'wicketgatelaw16.SnapsKeeps'. -/
def snapsKeepsCard : Claim7 := { stood := { row := snapsKeepsRow, standIns := [], harness := (true, "2333ad25e9266990b88d86769e0442bc542cba22204b1d59600043920aaa0807"), looks := true }, kinds := [], alts := [], laidByText := true, laidKinds := [.sentinel, .sentinel, .sentinel], laidTests := true, laidLooks := .later }
def SnapsKeepsCardSaid : Prop := Claim7.holds Tryd.pinned (.plain (OpenSpec.ofChange snapsKeepsSpec)) snapsKeepsCard

/-- THE TIED CARD OF 'wicketgatelaw16.SnapsOld'. -/
def snapsOldCard : Claim7 := { stood := { row := snapsOldRow, standIns := [], harness := (true, "2333ad25e9266990b88d86769e0442bc542cba22204b1d59600043920aaa0807"), looks := true }, kinds := [], alts := [], laidByText := true, laidKinds := [.sentinel, .sentinel, .sentinel], laidTests := true, laidLooks := .later }
def SnapsOldCardSaid : Prop := Claim7.holds Tryd.pinned (.plain (OpenSpec.ofChange snapsOldSpec)) snapsOldCard

/-- THE TIED CARD OF 'wicketgatelaw16.SnapsTwice'. -/
def snapsTwiceCard : Claim7 := { stood := { row := snapsTwiceRow, standIns := [], harness := (true, "2333ad25e9266990b88d86769e0442bc542cba22204b1d59600043920aaa0807"), looks := true }, kinds := [], alts := [], laidByText := true, laidKinds := [.sentinel, .sentinel, .sentinel], laidTests := true, laidLooks := .later }
def SnapsTwiceCardSaid : Prop := Claim7.holds Tryd.pinned (.plain (OpenSpec.ofChange snapsTwiceSpec)) snapsTwiceCard

/-- THE TIED CARD OF 'wicketgatelaw16.SnapsNone'. -/
def snapsNoneCard : Claim7 := { stood := { row := snapsNoneRow, standIns := [], harness := (true, "2333ad25e9266990b88d86769e0442bc542cba22204b1d59600043920aaa0807"), looks := true }, kinds := [], alts := [], laidByText := true, laidKinds := [.sentinel, .sentinel, .sentinel], laidTests := true, laidLooks := .later }
def SnapsNoneCardSaid : Prop := Claim7.holds Tryd.pinned (.plain (OpenSpec.ofChange snapsNoneSpec)) snapsNoneCard

/-- THE TIED CARD OF 'wicketgatelaw16.SnapsTurns'. -/
def snapsTurnsCard : Claim7 := { stood := { row := snapsTurnsRow, standIns := [], harness := (true, "2333ad25e9266990b88d86769e0442bc542cba22204b1d59600043920aaa0807"), looks := true }, kinds := [], alts := [], laidByText := true, laidKinds := [.sentinel, .sentinel, .sentinel], laidTests := true, laidLooks := .later }
def SnapsTurnsCardSaid : Prop := Claim7.holds Tryd.pinned (.plain (OpenSpec.ofChange snapsTurnsSpec)) snapsTurnsCard

/-- THE SECOND FORM's CARD OF 'wicketgatelaw16.SnapsWalk'. -/
def snapsWalkUptoCard : Claim7 := { stood := { row := snapsWalkUptoRow, standIns := [], harness := (true, "2333ad25e9266990b88d86769e0442bc542cba22204b1d59600043920aaa0807"), looks := true }, kinds := [], alts := [], laidByText := true, laidKinds := [.sentinel, .sentinel, .sentinel], laidTests := true, laidLooks := .later }
def SnapsWalkUptoCardSaid : Prop := Claim7.holds Tryd.pinned (.plain (OpenSpec.upto snapsWalkSpec)) snapsWalkUptoCard

/-- THE SECOND FORM's CARD OF 'wicketgatelaw16.SnapsKeeps'. -/
def snapsKeepsUptoCard : Claim7 := { stood := { row := snapsKeepsUptoRow, standIns := [], harness := (true, "2333ad25e9266990b88d86769e0442bc542cba22204b1d59600043920aaa0807"), looks := true }, kinds := [], alts := [], laidByText := true, laidKinds := [.sentinel, .sentinel, .sentinel], laidTests := true, laidLooks := .later }
def SnapsKeepsUptoCardSaid : Prop := Claim7.holds Tryd.pinned (.plain (OpenSpec.upto snapsKeepsSpec)) snapsKeepsUptoCard

/-- THE SECOND FORM's CARD OF 'wicketgatelaw16.SnapsOld'. -/
def snapsOldUptoCard : Claim7 := { stood := { row := snapsOldUptoRow, standIns := [], harness := (true, "2333ad25e9266990b88d86769e0442bc542cba22204b1d59600043920aaa0807"), looks := true }, kinds := [], alts := [], laidByText := true, laidKinds := [.sentinel, .sentinel, .sentinel], laidTests := true, laidLooks := .later }
def SnapsOldUptoCardSaid : Prop := Claim7.holds Tryd.pinned (.plain (OpenSpec.upto snapsOldSpec)) snapsOldUptoCard

/-- THE SECOND FORM's CARD OF 'wicketgatelaw16.SnapsTwice'. -/
def snapsTwiceUptoCard : Claim7 := { stood := { row := snapsTwiceUptoRow, standIns := [], harness := (true, "2333ad25e9266990b88d86769e0442bc542cba22204b1d59600043920aaa0807"), looks := true }, kinds := [], alts := [], laidByText := true, laidKinds := [.sentinel, .sentinel, .sentinel], laidTests := true, laidLooks := .later }
def SnapsTwiceUptoCardSaid : Prop := Claim7.holds Tryd.pinned (.plain (OpenSpec.upto snapsTwiceSpec)) snapsTwiceUptoCard

/-- THE SECOND FORM's CARD OF 'wicketgatelaw16.SnapsNone'. -/
def snapsNoneUptoCard : Claim7 := { stood := { row := snapsNoneUptoRow, standIns := [], harness := (true, "2333ad25e9266990b88d86769e0442bc542cba22204b1d59600043920aaa0807"), looks := true }, kinds := [], alts := [], laidByText := true, laidKinds := [.sentinel, .sentinel, .sentinel], laidTests := true, laidLooks := .later }
def SnapsNoneUptoCardSaid : Prop := Claim7.holds Tryd.pinned (.plain (OpenSpec.upto snapsNoneSpec)) snapsNoneUptoCard

/-- THE SECOND FORM's CARD OF 'wicketgatelaw16.SnapsTurns'. -/
def snapsTurnsUptoCard : Claim7 := { stood := { row := snapsTurnsUptoRow, standIns := [], harness := (true, "2333ad25e9266990b88d86769e0442bc542cba22204b1d59600043920aaa0807"), looks := true }, kinds := [], alts := [], laidByText := true, laidKinds := [.sentinel, .sentinel, .sentinel], laidTests := true, laidLooks := .later }
def SnapsTurnsUptoCardSaid : Prop := Claim7.holds Tryd.pinned (.plain (OpenSpec.upto snapsTurnsSpec)) snapsTurnsUptoCard
end Rows
end Go.Proofs.YtbcppmcjbcnlbaaDoor
