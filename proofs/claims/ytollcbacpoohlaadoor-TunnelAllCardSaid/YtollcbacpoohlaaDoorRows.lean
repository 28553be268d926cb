/-
  NARROWER THAN 'FOR EVERY INPUT', by the rows' own cells (each row's printed sentence says how): TunnelAll: laid · TunnelEnds: laid · TunnelOrder: laid · TunnelCredit: laid · TunnelStops: laid · TunnelApart: laid.
  DERIVED. THE GIVEN ROWS OF THIS SEAT. 6 by the template 'for every input the law returns true; each argument reads behind the call as it read before'; 0 by the template 'total and deterministic' (their statements: YtollcbacpoohlaaDoorTotals.lean).
  GIVEN WITH THE SEED: the statements are not yours to turn. If you find one false, say at which input.
  Laid BY PROGRAM, IN A SANDBOX (cutbox-rows.mjs): the forced cells as the released guide's own fill.sh prints them over the translation 5c2e766b13190dcb… (all of the seat's roots in one cut). By AI agents, Wed Nov 11 2026. No macro, syntax, notation, axiom, sorry.
-/
import Derived.Test.YtollcbacpoohlaaDoorChecked
import GoSem.Claim
import GoSem.ClaimJoined
import GoSem.ClaimMapViews
import Derived.JoinedTies
import Derived.KernelRfl
namespace Go.Proofs.YtollcbacpoohlaaDoor
/- THE CELL 'sum', in the pinned program and in every row, IS THE sha256 OF THE DUMP (.gsa) THAT YtollcbacpoohlaaDoorProg.lean LOADS. Nothing in Lean hashes anything: it is a label: what it is worth is what the hold of that sum in a sandbox is worth. -/
noncomputable def Tryd.pinned : Pinned := { name := "ytollcbacpoohlaadoor", sum := "5c2e766b13190dcbf59a3123b393f9c413d4f62450593b6a487e4791aae0f252", checked := Tryd.checked }
namespace Rows
def none {H : Type} : Left H := { results := [], args := [] }

/- WHAT THE LISTED PACKAGE-LEVEL VARIABLES READ AS WHEN THE CALL BEGINS. Each datum BY PROGRAM (the guide's laid-datum.mjs) off the statement by which the dump's own 'gosem.cut.vars' lays the variable. In a bare row this is a premise. The card (YtollcbacpoohlaaDoorCards.lean) ties it to the program's text. -/
def laid_errors_errorType {H : Type} : DataW H := .iface "internal/reflectlite.rtype" (.agg [.ptr (.lit (.string [101, 114, 114, 111, 114]))])

/-- 'wicketgatelaw17.TunnelAll': WHATEVER THE INPUT: true; the input reads as it did. -/
def tunnelAllSpec : ChangeSpec := { name := "tunnelAll", fn := fun _ => fun
  | [d1, d2, d3] => { results := [.lit (.bool true)], args := [d1, d2, d3] }
  | _ => none }
def tunnelAllRow : OpenClaim := { program := "ytollcbacpoohlaadoor", sum := "5c2e766b13190dcbf59a3123b393f9c413d4f62450593b6a487e4791aae0f252", func := "wicketgate/wicketgatelaw17.TunnelAll", spec := "tunnelAll", inPlace := ["internal/reflectlite.ValueOf", "(internal/reflectlite.Value).Type", "(internal/reflectlite.Value).IsNil", "internal/reflectlite.TypeOf", "(internal/reflectlite.Value).Elem", "(internal/reflectlite.Value).Set"], unfollowed := true, recurses := true, named := ["errors.errorType"], apart := false, laid := [("errors.errorType", laid_errors_errorType)] }
def TunnelAllSaid : Prop := tunnelAllRow.holds Tryd.pinned (OpenSpec.ofChange tunnelAllSpec)

/-- ITS FALSE NEIGHBOUR: 'it returns false'. Refute it at one input. -/
def tunnelAllWrong : ChangeSpec := { name := "tunnelAll", fn := fun _ => fun
  | [d1, d2, d3] => { results := [.lit (.bool false)], args := [d1, d2, d3] }
  | _ => none }
def TunnelAllWrongFalsely : Prop := tunnelAllRow.holds Tryd.pinned (OpenSpec.ofChange tunnelAllWrong)

/-- 'wicketgatelaw17.TunnelEnds': WHATEVER THE INPUT: true; the input reads as it did. -/
def tunnelEndsSpec : ChangeSpec := { name := "tunnelEnds", fn := fun _ => fun
  | [d1, d2, d3] => { results := [.lit (.bool true)], args := [d1, d2, d3] }
  | _ => none }
def tunnelEndsRow : OpenClaim := { program := "ytollcbacpoohlaadoor", sum := "5c2e766b13190dcbf59a3123b393f9c413d4f62450593b6a487e4791aae0f252", func := "wicketgate/wicketgatelaw17.TunnelEnds", spec := "tunnelEnds", inPlace := ["internal/reflectlite.ValueOf", "(internal/reflectlite.Value).Type", "(internal/reflectlite.Value).IsNil", "internal/reflectlite.TypeOf", "(internal/reflectlite.Value).Elem", "(internal/reflectlite.Value).Set"], unfollowed := true, recurses := true, named := ["errors.errorType"], apart := false, laid := [("errors.errorType", laid_errors_errorType)] }
def TunnelEndsSaid : Prop := tunnelEndsRow.holds Tryd.pinned (OpenSpec.ofChange tunnelEndsSpec)

/-- ITS FALSE NEIGHBOUR: 'it returns false'. Refute it at one input. -/
def tunnelEndsWrong : ChangeSpec := { name := "tunnelEnds", fn := fun _ => fun
  | [d1, d2, d3] => { results := [.lit (.bool false)], args := [d1, d2, d3] }
  | _ => none }
def TunnelEndsWrongFalsely : Prop := tunnelEndsRow.holds Tryd.pinned (OpenSpec.ofChange tunnelEndsWrong)

/-- 'wicketgatelaw17.TunnelOrder': WHATEVER THE INPUT: true; the input reads as it did. -/
def tunnelOrderSpec : ChangeSpec := { name := "tunnelOrder", fn := fun _ => fun
  | [d1, d2] => { results := [.lit (.bool true)], args := [d1, d2] }
  | _ => none }
def tunnelOrderRow : OpenClaim := { program := "ytollcbacpoohlaadoor", sum := "5c2e766b13190dcbf59a3123b393f9c413d4f62450593b6a487e4791aae0f252", func := "wicketgate/wicketgatelaw17.TunnelOrder", spec := "tunnelOrder", inPlace := ["internal/reflectlite.ValueOf", "(internal/reflectlite.Value).Type", "(internal/reflectlite.Value).IsNil", "internal/reflectlite.TypeOf", "(internal/reflectlite.Value).Elem", "(internal/reflectlite.Value).Set"], unfollowed := true, recurses := true, named := ["errors.errorType"], apart := false, laid := [("errors.errorType", laid_errors_errorType)] }
def TunnelOrderSaid : Prop := tunnelOrderRow.holds Tryd.pinned (OpenSpec.ofChange tunnelOrderSpec)

/-- ITS FALSE NEIGHBOUR: 'it returns false'. Refute it at one input. -/
def tunnelOrderWrong : ChangeSpec := { name := "tunnelOrder", fn := fun _ => fun
  | [d1, d2] => { results := [.lit (.bool false)], args := [d1, d2] }
  | _ => none }
def TunnelOrderWrongFalsely : Prop := tunnelOrderRow.holds Tryd.pinned (OpenSpec.ofChange tunnelOrderWrong)

/-- 'wicketgatelaw17.TunnelCredit': WHATEVER THE INPUT: true; the input reads as it did. -/
def tunnelCreditSpec : ChangeSpec := { name := "tunnelCredit", fn := fun _ => fun
  | [d1, d2] => { results := [.lit (.bool true)], args := [d1, d2] }
  | _ => none }
def tunnelCreditRow : OpenClaim := { program := "ytollcbacpoohlaadoor", sum := "5c2e766b13190dcbf59a3123b393f9c413d4f62450593b6a487e4791aae0f252", func := "wicketgate/wicketgatelaw17.TunnelCredit", spec := "tunnelCredit", inPlace := ["internal/reflectlite.ValueOf", "(internal/reflectlite.Value).Type", "(internal/reflectlite.Value).IsNil", "internal/reflectlite.TypeOf", "(internal/reflectlite.Value).Elem", "(internal/reflectlite.Value).Set"], unfollowed := true, recurses := true, named := ["errors.errorType"], apart := false, laid := [("errors.errorType", laid_errors_errorType)] }
def TunnelCreditSaid : Prop := tunnelCreditRow.holds Tryd.pinned (OpenSpec.ofChange tunnelCreditSpec)

/-- ITS FALSE NEIGHBOUR: 'it returns false'. Refute it at one input. -/
def tunnelCreditWrong : ChangeSpec := { name := "tunnelCredit", fn := fun _ => fun
  | [d1, d2] => { results := [.lit (.bool false)], args := [d1, d2] }
  | _ => none }
def TunnelCreditWrongFalsely : Prop := tunnelCreditRow.holds Tryd.pinned (OpenSpec.ofChange tunnelCreditWrong)

/-- 'wicketgatelaw17.TunnelStops': WHATEVER THE INPUT: true; the input reads as it did. -/
def tunnelStopsSpec : ChangeSpec := { name := "tunnelStops", fn := fun _ => fun
  | [d1, d2, d3] => { results := [.lit (.bool true)], args := [d1, d2, d3] }
  | _ => none }
def tunnelStopsRow : OpenClaim := { program := "ytollcbacpoohlaadoor", sum := "5c2e766b13190dcbf59a3123b393f9c413d4f62450593b6a487e4791aae0f252", func := "wicketgate/wicketgatelaw17.TunnelStops", spec := "tunnelStops", inPlace := ["internal/reflectlite.ValueOf", "(internal/reflectlite.Value).Type", "(internal/reflectlite.Value).IsNil", "internal/reflectlite.TypeOf", "(internal/reflectlite.Value).Elem", "(internal/reflectlite.Value).Set"], unfollowed := true, recurses := true, named := ["errors.errorType"], apart := false, laid := [("errors.errorType", laid_errors_errorType)] }
def TunnelStopsSaid : Prop := tunnelStopsRow.holds Tryd.pinned (OpenSpec.ofChange tunnelStopsSpec)

/-- ITS FALSE NEIGHBOUR: 'it returns false'. Refute it at one input. -/
def tunnelStopsWrong : ChangeSpec := { name := "tunnelStops", fn := fun _ => fun
  | [d1, d2, d3] => { results := [.lit (.bool false)], args := [d1, d2, d3] }
  | _ => none }
def TunnelStopsWrongFalsely : Prop := tunnelStopsRow.holds Tryd.pinned (OpenSpec.ofChange tunnelStopsWrong)

/-- 'wicketgatelaw17.TunnelApart': WHATEVER THE INPUT: true; the input reads as it did. -/
def tunnelApartSpec : ChangeSpec := { name := "tunnelApart", fn := fun _ => fun
  | [d1, d2, d3, d4] => { results := [.lit (.bool true)], args := [d1, d2, d3, d4] }
  | _ => none }
def tunnelApartRow : OpenClaim := { program := "ytollcbacpoohlaadoor", sum := "5c2e766b13190dcbf59a3123b393f9c413d4f62450593b6a487e4791aae0f252", func := "wicketgate/wicketgatelaw17.TunnelApart", spec := "tunnelApart", inPlace := ["internal/reflectlite.ValueOf", "(internal/reflectlite.Value).Type", "(internal/reflectlite.Value).IsNil", "internal/reflectlite.TypeOf", "(internal/reflectlite.Value).Elem", "(internal/reflectlite.Value).Set"], unfollowed := true, recurses := true, named := ["errors.errorType"], apart := false, laid := [("errors.errorType", laid_errors_errorType)] }
def TunnelApartSaid : Prop := tunnelApartRow.holds Tryd.pinned (OpenSpec.ofChange tunnelApartSpec)

/-- ITS FALSE NEIGHBOUR: 'it returns false'. Refute it at one input. -/
def tunnelApartWrong : ChangeSpec := { name := "tunnelApart", fn := fun _ => fun
  | [d1, d2, d3, d4] => { results := [.lit (.bool false)], args := [d1, d2, d3, d4] }
  | _ => none }
def TunnelApartWrongFalsely : Prop := tunnelApartRow.holds Tryd.pinned (OpenSpec.ofChange tunnelApartWrong)

/- THE SECOND FORM. 'bulk': how many values and letters a reading holds, each counted each time it is reached (what is shared counts as often as it is met; a slice's spare places count too). A statement '..UptoSaid' is the law's where the arguments, and the package variables that the reading takes, are together of bulk at most 1048576: NARROWER than '..Said'. Prove '..Said' where nothing that the law and all that it calls make is longer than what came in: it says more and counts as full. Else prove '..UptoSaid'. A law counts once. -/
mutual
def uptoBulk {H : Type} : DataW H → Nat
  | .lit (.string bytes) => bytes.length + 1
  | .lit _ => 1
  | .nil => 1
  | .ptr d => uptoBulk d + 1
  | .slice elems spare => uptoBulkAll elems + uptoBulkAll spare + 1
  | .agg parts => uptoBulkAll parts + 1
  | .iface _ d => uptoBulk d + 1
  | .map entries => uptoBulkEntries entries + 1
  | .held _ => 1
def uptoBulkAll {H : Type} : List (DataW H) → Nat
  | [] => 0
  | d :: r => uptoBulk d + uptoBulkAll r
def uptoBulkEntries {H : Type} : List (Lit × DataW H) → Nat
  | [] => 0
  | x :: r => uptoBulkEntry x + uptoBulkEntries r
def uptoBulkEntry {H : Type} : Lit × DataW H → Nat
  | (.string bytes, d) => bytes.length + uptoBulk d + 1
  | (_, d) => uptoBulk d + 1
 end
def uptoSmall : (H : Type) → List (DataW H) → Bool := fun _ ds => decide (uptoBulkAll ds ≤ 1048576)
def OpenSpec.upto (s : _root_.Go.ChangeSpec) : _root_.Go.OpenSpec := { _root_.Go.OpenSpec.ofChange s with cond := some uptoSmall }

/-- 'wicketgatelaw17.TunnelAll', WHERE WHAT IT READS IS OF BULK AT MOST 1048576: true; the input reads as it did. -/
def tunnelAllUptoRow : OpenClaim := { program := "ytollcbacpoohlaadoor", sum := "5c2e766b13190dcbf59a3123b393f9c413d4f62450593b6a487e4791aae0f252", func := "wicketgate/wicketgatelaw17.TunnelAll", spec := "tunnelAll", inPlace := ["internal/reflectlite.ValueOf", "(internal/reflectlite.Value).Type", "(internal/reflectlite.Value).IsNil", "internal/reflectlite.TypeOf", "(internal/reflectlite.Value).Elem", "(internal/reflectlite.Value).Set"], unfollowed := true, recurses := true, named := ["errors.errorType"], apart := false, laid := [("errors.errorType", laid_errors_errorType)], narrowed := true }
def TunnelAllUptoSaid : Prop := tunnelAllUptoRow.holds Tryd.pinned (OpenSpec.upto tunnelAllSpec)

/-- 'wicketgatelaw17.TunnelEnds', WHERE WHAT IT READS IS OF BULK AT MOST 1048576: true; the input reads as it did. -/
def tunnelEndsUptoRow : OpenClaim := { program := "ytollcbacpoohlaadoor", sum := "5c2e766b13190dcbf59a3123b393f9c413d4f62450593b6a487e4791aae0f252", func := "wicketgate/wicketgatelaw17.TunnelEnds", spec := "tunnelEnds", inPlace := ["internal/reflectlite.ValueOf", "(internal/reflectlite.Value).Type", "(internal/reflectlite.Value).IsNil", "internal/reflectlite.TypeOf", "(internal/reflectlite.Value).Elem", "(internal/reflectlite.Value).Set"], unfollowed := true, recurses := true, named := ["errors.errorType"], apart := false, laid := [("errors.errorType", laid_errors_errorType)], narrowed := true }
def TunnelEndsUptoSaid : Prop := tunnelEndsUptoRow.holds Tryd.pinned (OpenSpec.upto tunnelEndsSpec)

/-- 'wicketgatelaw17.TunnelOrder', WHERE WHAT IT READS IS OF BULK AT MOST 1048576: true; the input reads as it did. -/
def tunnelOrderUptoRow : OpenClaim := { program := "ytollcbacpoohlaadoor", sum := "5c2e766b13190dcbf59a3123b393f9c413d4f62450593b6a487e4791aae0f252", func := "wicketgate/wicketgatelaw17.TunnelOrder", spec := "tunnelOrder", inPlace := ["internal/reflectlite.ValueOf", "(internal/reflectlite.Value).Type", "(internal/reflectlite.Value).IsNil", "internal/reflectlite.TypeOf", "(internal/reflectlite.Value).Elem", "(internal/reflectlite.Value).Set"], unfollowed := true, recurses := true, named := ["errors.errorType"], apart := false, laid := [("errors.errorType", laid_errors_errorType)], narrowed := true }
def TunnelOrderUptoSaid : Prop := tunnelOrderUptoRow.holds Tryd.pinned (OpenSpec.upto tunnelOrderSpec)

/-- 'wicketgatelaw17.TunnelCredit', WHERE WHAT IT READS IS OF BULK AT MOST 1048576: true; the input reads as it did. -/
def tunnelCreditUptoRow : OpenClaim := { program := "ytollcbacpoohlaadoor", sum := "5c2e766b13190dcbf59a3123b393f9c413d4f62450593b6a487e4791aae0f252", func := "wicketgate/wicketgatelaw17.TunnelCredit", spec := "tunnelCredit", inPlace := ["internal/reflectlite.ValueOf", "(internal/reflectlite.Value).Type", "(internal/reflectlite.Value).IsNil", "internal/reflectlite.TypeOf", "(internal/reflectlite.Value).Elem", "(internal/reflectlite.Value).Set"], unfollowed := true, recurses := true, named := ["errors.errorType"], apart := false, laid := [("errors.errorType", laid_errors_errorType)], narrowed := true }
def TunnelCreditUptoSaid : Prop := tunnelCreditUptoRow.holds Tryd.pinned (OpenSpec.upto tunnelCreditSpec)

/-- 'wicketgatelaw17.TunnelStops', WHERE WHAT IT READS IS OF BULK AT MOST 1048576: true; the input reads as it did. -/
def tunnelStopsUptoRow : OpenClaim := { program := "ytollcbacpoohlaadoor", sum := "5c2e766b13190dcbf59a3123b393f9c413d4f62450593b6a487e4791aae0f252", func := "wicketgate/wicketgatelaw17.TunnelStops", spec := "tunnelStops", inPlace := ["internal/reflectlite.ValueOf", "(internal/reflectlite.Value).Type", "(internal/reflectlite.Value).IsNil", "internal/reflectlite.TypeOf", "(internal/reflectlite.Value).Elem", "(internal/reflectlite.Value).Set"], unfollowed := true, recurses := true, named := ["errors.errorType"], apart := false, laid := [("errors.errorType", laid_errors_errorType)], narrowed := true }
def TunnelStopsUptoSaid : Prop := tunnelStopsUptoRow.holds Tryd.pinned (OpenSpec.upto tunnelStopsSpec)

/-- 'wicketgatelaw17.TunnelApart', WHERE WHAT IT READS IS OF BULK AT MOST 1048576: true; the input reads as it did. -/
def tunnelApartUptoRow : OpenClaim := { program := "ytollcbacpoohlaadoor", sum := "5c2e766b13190dcbf59a3123b393f9c413d4f62450593b6a487e4791aae0f252", func := "wicketgate/wicketgatelaw17.TunnelApart", spec := "tunnelApart", inPlace := ["internal/reflectlite.ValueOf", "(internal/reflectlite.Value).Type", "(internal/reflectlite.Value).IsNil", "internal/reflectlite.TypeOf", "(internal/reflectlite.Value).Elem", "(internal/reflectlite.Value).Set"], unfollowed := true, recurses := true, named := ["errors.errorType"], apart := false, laid := [("errors.errorType", laid_errors_errorType)], narrowed := true }
def TunnelApartUptoSaid : Prop := tunnelApartUptoRow.holds Tryd.pinned (OpenSpec.upto tunnelApartSpec)

end Rows
end Go.Proofs.YtollcbacpoohlaaDoor
