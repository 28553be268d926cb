/-
  DERIVED. GIVEN WITH THE SEED: THE CARDS: each row of YtollcbacpoohlaaDoorRows.lean that lists a variable, with what it lists TIED to the program's text (the seventh form; the later family's looks); each row that meets fmt, with fmt's text TOLD by the authors' own Lean function (tested against real Go, not proved from fmt's source: count such statements apart). THE CARD IS WHAT COUNTS. Prove the row's statement (the work); the ties are given (YtollcbacpoohlaaDoorTie.lean); close each card by the builder's one call (the guide's Derived/Test/ToyasCard.lean, 'card_holds'). Laid BY PROGRAM, IN A SANDBOX (cutbox-door.mjs). By AI agents, Wed Nov 11 2026. No macro, syntax, notation, axiom, sorry.
-/
import Derived.Test.YtollcbacpoohlaaDoorRows
import GoSem.ClaimSeven
namespace Go.Proofs.YtollcbacpoohlaaDoor
namespace Rows

/-- THE TIED CARD OF 'wicketgatelaw17.TunnelAll'. -/
def tunnelAllCard : Claim7 := { stood := { row := tunnelAllRow, standIns := [], harness := (true, "be5f80ba150aeabb2c200651de0d057db8e8007d14a1a46a0aca38b8dba6a715"), looks := true }, kinds := [], alts := [], laidByText := true, laidKinds := [.handle], laidTests := true, laidLooks := .later }
def TunnelAllCardSaid : Prop := Claim7.holds Tryd.pinned (.plain (OpenSpec.ofChange tunnelAllSpec)) tunnelAllCard

/-- THE TIED CARD OF 'wicketgatelaw17.TunnelEnds'. -/
def tunnelEndsCard : Claim7 := { stood := { row := tunnelEndsRow, standIns := [], harness := (true, "be5f80ba150aeabb2c200651de0d057db8e8007d14a1a46a0aca38b8dba6a715"), looks := true }, kinds := [], alts := [], laidByText := true, laidKinds := [.handle], laidTests := true, laidLooks := .later }
def TunnelEndsCardSaid : Prop := Claim7.holds Tryd.pinned (.plain (OpenSpec.ofChange tunnelEndsSpec)) tunnelEndsCard

/-- THE TIED CARD OF 'wicketgatelaw17.TunnelOrder'. -/
def tunnelOrderCard : Claim7 := { stood := { row := tunnelOrderRow, standIns := [], harness := (true, "be5f80ba150aeabb2c200651de0d057db8e8007d14a1a46a0aca38b8dba6a715"), looks := true }, kinds := [], alts := [], laidByText := true, laidKinds := [.handle], laidTests := true, laidLooks := .later }
def TunnelOrderCardSaid : Prop := Claim7.holds Tryd.pinned (.plain (OpenSpec.ofChange tunnelOrderSpec)) tunnelOrderCard

/-- THE TIED CARD OF 'wicketgatelaw17.TunnelCredit'. -/
def tunnelCreditCard : Claim7 := { stood := { row := tunnelCreditRow, standIns := [], harness := (true, "be5f80ba150aeabb2c200651de0d057db8e8007d14a1a46a0aca38b8dba6a715"), looks := true }, kinds := [], alts := [], laidByText := true, laidKinds := [.handle], laidTests := true, laidLooks := .later }
def TunnelCreditCardSaid : Prop := Claim7.holds Tryd.pinned (.plain (OpenSpec.ofChange tunnelCreditSpec)) tunnelCreditCard

/-- THE TIED CARD OF 'wicketgatelaw17.TunnelStops'. -/
def tunnelStopsCard : Claim7 := { stood := { row := tunnelStopsRow, standIns := [], harness := (true, "be5f80ba150aeabb2c200651de0d057db8e8007d14a1a46a0aca38b8dba6a715"), looks := true }, kinds := [], alts := [], laidByText := true, laidKinds := [.handle], laidTests := true, laidLooks := .later }
def TunnelStopsCardSaid : Prop := Claim7.holds Tryd.pinned (.plain (OpenSpec.ofChange tunnelStopsSpec)) tunnelStopsCard

/-- THE TIED CARD OF 'wicketgatelaw17.TunnelApart'. -/
def tunnelApartCard : Claim7 := { stood := { row := tunnelApartRow, standIns := [], harness := (true, "be5f80ba150aeabb2c200651de0d057db8e8007d14a1a46a0aca38b8dba6a715"), looks := true }, kinds := [], alts := [], laidByText := true, laidKinds := [.handle], laidTests := true, laidLooks := .later }
def TunnelApartCardSaid : Prop := Claim7.holds Tryd.pinned (.plain (OpenSpec.ofChange tunnelApartSpec)) tunnelApartCard

/-- THE SECOND FORM's CARD OF 'wicketgatelaw17.TunnelAll'. -/
def tunnelAllUptoCard : Claim7 := { stood := { row := tunnelAllUptoRow, standIns := [], harness := (true, "be5f80ba150aeabb2c200651de0d057db8e8007d14a1a46a0aca38b8dba6a715"), looks := true }, kinds := [], alts := [], laidByText := true, laidKinds := [.handle], laidTests := true, laidLooks := .later }
def TunnelAllUptoCardSaid : Prop := Claim7.holds Tryd.pinned (.plain (OpenSpec.upto tunnelAllSpec)) tunnelAllUptoCard

/-- THE SECOND FORM's CARD OF 'wicketgatelaw17.TunnelEnds'. -/
def tunnelEndsUptoCard : Claim7 := { stood := { row := tunnelEndsUptoRow, standIns := [], harness := (true, "be5f80ba150aeabb2c200651de0d057db8e8007d14a1a46a0aca38b8dba6a715"), looks := true }, kinds := [], alts := [], laidByText := true, laidKinds := [.handle], laidTests := true, laidLooks := .later }
def TunnelEndsUptoCardSaid : Prop := Claim7.holds Tryd.pinned (.plain (OpenSpec.upto tunnelEndsSpec)) tunnelEndsUptoCard

/-- THE SECOND FORM's CARD OF 'wicketgatelaw17.TunnelOrder'. -/
def tunnelOrderUptoCard : Claim7 := { stood := { row := tunnelOrderUptoRow, standIns := [], harness := (true, "be5f80ba150aeabb2c200651de0d057db8e8007d14a1a46a0aca38b8dba6a715"), looks := true }, kinds := [], alts := [], laidByText := true, laidKinds := [.handle], laidTests := true, laidLooks := .later }
def TunnelOrderUptoCardSaid : Prop := Claim7.holds Tryd.pinned (.plain (OpenSpec.upto tunnelOrderSpec)) tunnelOrderUptoCard

/-- THE SECOND FORM's CARD OF 'wicketgatelaw17.TunnelCredit'. -/
def tunnelCreditUptoCard : Claim7 := { stood := { row := tunnelCreditUptoRow, standIns := [], harness := (true, "be5f80ba150aeabb2c200651de0d057db8e8007d14a1a46a0aca38b8dba6a715"), looks := true }, kinds := [], alts := [], laidByText := true, laidKinds := [.handle], laidTests := true, laidLooks := .later }
def TunnelCreditUptoCardSaid : Prop := Claim7.holds Tryd.pinned (.plain (OpenSpec.upto tunnelCreditSpec)) tunnelCreditUptoCard

/-- THE SECOND FORM's CARD OF 'wicketgatelaw17.TunnelStops'. -/
def tunnelStopsUptoCard : Claim7 := { stood := { row := tunnelStopsUptoRow, standIns := [], harness := (true, "be5f80ba150aeabb2c200651de0d057db8e8007d14a1a46a0aca38b8dba6a715"), looks := true }, kinds := [], alts := [], laidByText := true, laidKinds := [.handle], laidTests := true, laidLooks := .later }
def TunnelStopsUptoCardSaid : Prop := Claim7.holds Tryd.pinned (.plain (OpenSpec.upto tunnelStopsSpec)) tunnelStopsUptoCard

/-- THE SECOND FORM's CARD OF 'wicketgatelaw17.TunnelApart'. -/
def tunnelApartUptoCard : Claim7 := { stood := { row := tunnelApartUptoRow, standIns := [], harness := (true, "be5f80ba150aeabb2c200651de0d057db8e8007d14a1a46a0aca38b8dba6a715"), looks := true }, kinds := [], alts := [], laidByText := true, laidKinds := [.handle], laidTests := true, laidLooks := .later }
def TunnelApartUptoCardSaid : Prop := Claim7.holds Tryd.pinned (.plain (OpenSpec.upto tunnelApartSpec)) tunnelApartUptoCard
end Rows
end Go.Proofs.YtollcbacpoohlaaDoor
