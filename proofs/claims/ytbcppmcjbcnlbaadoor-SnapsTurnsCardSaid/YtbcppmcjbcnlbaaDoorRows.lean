/-
  NARROWER THAN 'FOR EVERY INPUT', by the rows' own cells (each row's printed sentence says how): SnapsWalk: laid · SnapsKeeps: laid · SnapsOld: laid · SnapsTwice: laid · SnapsNone: laid · SnapsTurns: laid.
  DERIVED. THE GIVEN ROWS OF THIS SEAT. 6 by the template 'for every input the law returns true; each argument reads behind the call as it read before'; 0 by the template 'total and deterministic' (their statements: YtbcppmcjbcnlbaaDoorTotals.lean).
  GIVEN WITH THE SEED: the statements are not yours to turn. If you find one false, say at which input.
  Laid BY PROGRAM, IN A SANDBOX (cutbox-rows.mjs): the forced cells as the released guide's own fill.sh prints them over the translation 2089dd7e2ec737e0… (all of the seat's roots in one cut). By AI agents, Wed Nov 11 2026. No macro, syntax, notation, axiom, sorry.
-/
import Derived.Test.YtbcppmcjbcnlbaaDoorChecked
import GoSem.Claim
import GoSem.ClaimJoined
import GoSem.ClaimMapViews
import Derived.JoinedTies
import Derived.KernelRfl
namespace Go.Proofs.YtbcppmcjbcnlbaaDoor
/- THE CELL 'sum', in the pinned program and in every row, IS THE sha256 OF THE DUMP (.gsa) THAT YtbcppmcjbcnlbaaDoorProg.lean LOADS. Nothing in Lean hashes anything: it is a label: what it is worth is what the hold of that sum in a sandbox is worth. -/
noncomputable def Tryd.pinned : Pinned := { name := "ytbcppmcjbcnlbaadoor", sum := "2089dd7e2ec737e0c2faa12d2fb5a081384602f74e2e5ea9fce16b1812065447", checked := Tryd.checked }
namespace Rows
def none {H : Type} : Left H := { results := [], args := [] }

/- WHAT THE LISTED PACKAGE-LEVEL VARIABLES READ AS WHEN THE CALL BEGINS. Each datum BY PROGRAM (the guide's laid-datum.mjs) off the statement by which the dump's own 'gosem.cut.vars' lays the variable. In a bare row this is a premise. The card (YtbcppmcjbcnlbaaDoorCards.lean) ties it to the program's text. -/
def laid_wicketgate_snaps_errArg {H : Type} : DataW H := .iface "*errors.errorString" (.ptr (.agg [.lit (.string [110, 111, 32, 110, 117, 109, 98, 101, 114])]))
def laid_wicketgate_snaps_errPool {H : Type} : DataW H := .iface "*errors.errorString" (.ptr (.agg [.lit (.string [110, 111, 32, 112, 111, 111, 108])]))
def laid_wicketgate_snaps_errCursor {H : Type} : DataW H := .iface "*errors.errorString" (.ptr (.agg [.lit (.string [110, 111, 32, 99, 117, 114, 115, 111, 114])]))

/-- 'wicketgatelaw16.SnapsWalk': WHATEVER THE INPUT: true; the input reads as it did. -/
def snapsWalkSpec : ChangeSpec := { name := "snapsWalk", fn := fun _ => fun
  | [d1, d2, d3, d4, d5] => { results := [.lit (.bool true)], args := [d1, d2, d3, d4, d5] }
  | _ => none }
def snapsWalkRow : OpenClaim := { program := "ytbcppmcjbcnlbaadoor", sum := "2089dd7e2ec737e0c2faa12d2fb5a081384602f74e2e5ea9fce16b1812065447", func := "wicketgate/wicketgatelaw16.SnapsWalk", spec := "snapsWalk", inPlace := ["internal/reflectlite.TypeOf"], unfollowed := true, recurses := true, named := ["wicketgate/snaps.errPool", "wicketgate/snaps.errArg", "wicketgate/snaps.errCursor"], apart := false, laid := [("wicketgate/snaps.errArg", laid_wicketgate_snaps_errArg), ("wicketgate/snaps.errPool", laid_wicketgate_snaps_errPool), ("wicketgate/snaps.errCursor", laid_wicketgate_snaps_errCursor)] }
def SnapsWalkSaid : Prop := snapsWalkRow.holds Tryd.pinned (OpenSpec.ofChange snapsWalkSpec)

/-- ITS FALSE NEIGHBOUR: 'it returns false'. Refute it at one input. -/
def snapsWalkWrong : ChangeSpec := { name := "snapsWalk", fn := fun _ => fun
  | [d1, d2, d3, d4, d5] => { results := [.lit (.bool false)], args := [d1, d2, d3, d4, d5] }
  | _ => none }
def SnapsWalkWrongFalsely : Prop := snapsWalkRow.holds Tryd.pinned (OpenSpec.ofChange snapsWalkWrong)

/-- 'wicketgatelaw16.SnapsKeeps': WHATEVER THE INPUT: true; the input reads as it did. -/
def snapsKeepsSpec : ChangeSpec := { name := "snapsKeeps", fn := fun _ => fun
  | [d1, d2, d3, d4, d5, d6] => { results := [.lit (.bool true)], args := [d1, d2, d3, d4, d5, d6] }
  | _ => none }
def snapsKeepsRow : OpenClaim := { program := "ytbcppmcjbcnlbaadoor", sum := "2089dd7e2ec737e0c2faa12d2fb5a081384602f74e2e5ea9fce16b1812065447", func := "wicketgate/wicketgatelaw16.SnapsKeeps", spec := "snapsKeeps", inPlace := ["internal/reflectlite.TypeOf"], unfollowed := true, recurses := true, named := ["wicketgate/snaps.errPool", "wicketgate/snaps.errArg", "wicketgate/snaps.errCursor"], apart := false, laid := [("wicketgate/snaps.errArg", laid_wicketgate_snaps_errArg), ("wicketgate/snaps.errPool", laid_wicketgate_snaps_errPool), ("wicketgate/snaps.errCursor", laid_wicketgate_snaps_errCursor)] }
def SnapsKeepsSaid : Prop := snapsKeepsRow.holds Tryd.pinned (OpenSpec.ofChange snapsKeepsSpec)

/-- ITS FALSE NEIGHBOUR: 'it returns false'. Refute it at one input. -/
def snapsKeepsWrong : ChangeSpec := { name := "snapsKeeps", fn := fun _ => fun
  | [d1, d2, d3, d4, d5, d6] => { results := [.lit (.bool false)], args := [d1, d2, d3, d4, d5, d6] }
  | _ => none }
def SnapsKeepsWrongFalsely : Prop := snapsKeepsRow.holds Tryd.pinned (OpenSpec.ofChange snapsKeepsWrong)

/-- 'wicketgatelaw16.SnapsOld': WHATEVER THE INPUT: true; the input reads as it did. -/
def snapsOldSpec : ChangeSpec := { name := "snapsOld", fn := fun _ => fun
  | [d1, d2, d3, d4] => { results := [.lit (.bool true)], args := [d1, d2, d3, d4] }
  | _ => none }
def snapsOldRow : OpenClaim := { program := "ytbcppmcjbcnlbaadoor", sum := "2089dd7e2ec737e0c2faa12d2fb5a081384602f74e2e5ea9fce16b1812065447", func := "wicketgate/wicketgatelaw16.SnapsOld", spec := "snapsOld", inPlace := ["internal/reflectlite.TypeOf"], unfollowed := true, recurses := true, named := ["wicketgate/snaps.errPool", "wicketgate/snaps.errArg", "wicketgate/snaps.errCursor"], apart := false, laid := [("wicketgate/snaps.errArg", laid_wicketgate_snaps_errArg), ("wicketgate/snaps.errPool", laid_wicketgate_snaps_errPool), ("wicketgate/snaps.errCursor", laid_wicketgate_snaps_errCursor)] }
def SnapsOldSaid : Prop := snapsOldRow.holds Tryd.pinned (OpenSpec.ofChange snapsOldSpec)

/-- ITS FALSE NEIGHBOUR: 'it returns false'. Refute it at one input. -/
def snapsOldWrong : ChangeSpec := { name := "snapsOld", fn := fun _ => fun
  | [d1, d2, d3, d4] => { results := [.lit (.bool false)], args := [d1, d2, d3, d4] }
  | _ => none }
def SnapsOldWrongFalsely : Prop := snapsOldRow.holds Tryd.pinned (OpenSpec.ofChange snapsOldWrong)

/-- 'wicketgatelaw16.SnapsTwice': WHATEVER THE INPUT: true; the input reads as it did. -/
def snapsTwiceSpec : ChangeSpec := { name := "snapsTwice", fn := fun _ => fun
  | [d1, d2, d3, d4, d5, d6] => { results := [.lit (.bool true)], args := [d1, d2, d3, d4, d5, d6] }
  | _ => none }
def snapsTwiceRow : OpenClaim := { program := "ytbcppmcjbcnlbaadoor", sum := "2089dd7e2ec737e0c2faa12d2fb5a081384602f74e2e5ea9fce16b1812065447", func := "wicketgate/wicketgatelaw16.SnapsTwice", spec := "snapsTwice", inPlace := ["internal/reflectlite.TypeOf"], unfollowed := true, recurses := true, named := ["wicketgate/snaps.errPool", "wicketgate/snaps.errArg", "wicketgate/snaps.errCursor"], apart := false, laid := [("wicketgate/snaps.errArg", laid_wicketgate_snaps_errArg), ("wicketgate/snaps.errPool", laid_wicketgate_snaps_errPool), ("wicketgate/snaps.errCursor", laid_wicketgate_snaps_errCursor)] }
def SnapsTwiceSaid : Prop := snapsTwiceRow.holds Tryd.pinned (OpenSpec.ofChange snapsTwiceSpec)

/-- ITS FALSE NEIGHBOUR: 'it returns false'. Refute it at one input. -/
def snapsTwiceWrong : ChangeSpec := { name := "snapsTwice", fn := fun _ => fun
  | [d1, d2, d3, d4, d5, d6] => { results := [.lit (.bool false)], args := [d1, d2, d3, d4, d5, d6] }
  | _ => none }
def SnapsTwiceWrongFalsely : Prop := snapsTwiceRow.holds Tryd.pinned (OpenSpec.ofChange snapsTwiceWrong)

/-- 'wicketgatelaw16.SnapsNone': WHATEVER THE INPUT: true; the input reads as it did. -/
def snapsNoneSpec : ChangeSpec := { name := "snapsNone", fn := fun _ => fun
  | [d1, d2, d3] => { results := [.lit (.bool true)], args := [d1, d2, d3] }
  | _ => none }
def snapsNoneRow : OpenClaim := { program := "ytbcppmcjbcnlbaadoor", sum := "2089dd7e2ec737e0c2faa12d2fb5a081384602f74e2e5ea9fce16b1812065447", func := "wicketgate/wicketgatelaw16.SnapsNone", spec := "snapsNone", inPlace := ["internal/reflectlite.TypeOf"], unfollowed := true, recurses := true, named := ["wicketgate/snaps.errPool", "wicketgate/snaps.errArg", "wicketgate/snaps.errCursor"], apart := false, laid := [("wicketgate/snaps.errArg", laid_wicketgate_snaps_errArg), ("wicketgate/snaps.errPool", laid_wicketgate_snaps_errPool), ("wicketgate/snaps.errCursor", laid_wicketgate_snaps_errCursor)] }
def SnapsNoneSaid : Prop := snapsNoneRow.holds Tryd.pinned (OpenSpec.ofChange snapsNoneSpec)

/-- ITS FALSE NEIGHBOUR: 'it returns false'. Refute it at one input. -/
def snapsNoneWrong : ChangeSpec := { name := "snapsNone", fn := fun _ => fun
  | [d1, d2, d3] => { results := [.lit (.bool false)], args := [d1, d2, d3] }
  | _ => none }
def SnapsNoneWrongFalsely : Prop := snapsNoneRow.holds Tryd.pinned (OpenSpec.ofChange snapsNoneWrong)

/-- 'wicketgatelaw16.SnapsTurns': WHATEVER THE INPUT: true; the input reads as it did. -/
def snapsTurnsSpec : ChangeSpec := { name := "snapsTurns", fn := fun _ => fun
  | [d1, d2, d3, d4, d5, d6, d7] => { results := [.lit (.bool true)], args := [d1, d2, d3, d4, d5, d6, d7] }
  | _ => none }
def snapsTurnsRow : OpenClaim := { program := "ytbcppmcjbcnlbaadoor", sum := "2089dd7e2ec737e0c2faa12d2fb5a081384602f74e2e5ea9fce16b1812065447", func := "wicketgate/wicketgatelaw16.SnapsTurns", spec := "snapsTurns", inPlace := ["internal/reflectlite.TypeOf"], unfollowed := true, recurses := true, named := ["wicketgate/snaps.errPool", "wicketgate/snaps.errArg", "wicketgate/snaps.errCursor"], apart := false, laid := [("wicketgate/snaps.errArg", laid_wicketgate_snaps_errArg), ("wicketgate/snaps.errPool", laid_wicketgate_snaps_errPool), ("wicketgate/snaps.errCursor", laid_wicketgate_snaps_errCursor)] }
def SnapsTurnsSaid : Prop := snapsTurnsRow.holds Tryd.pinned (OpenSpec.ofChange snapsTurnsSpec)

/-- ITS FALSE NEIGHBOUR: 'it returns false'. Refute it at one input. -/
def snapsTurnsWrong : ChangeSpec := { name := "snapsTurns", fn := fun _ => fun
  | [d1, d2, d3, d4, d5, d6, d7] => { results := [.lit (.bool false)], args := [d1, d2, d3, d4, d5, d6, d7] }
  | _ => none }
def SnapsTurnsWrongFalsely : Prop := snapsTurnsRow.holds Tryd.pinned (OpenSpec.ofChange snapsTurnsWrong)

/- THE SECOND FORM. 'bulk': how many values and letters a reading holds, each counted each time it is reached (what is shared counts as often as it is met; a slice's spare places count too). A statement '..UptoSaid' is the law's where the arguments, and the package variables that the reading takes, are together of bulk at most 1048576: NARROWER than '..Said'. Prove '..Said' where nothing that the law and all that it calls make is longer than what came in: it says more and counts as full. Else prove '..UptoSaid'. A law counts once. -/
mutual
def uptoBulk {H : Type} : DataW H → Nat
  | .lit (.string bytes) => bytes.length + 1
  | .lit _ => 1
  | .nil => 1
  | .ptr d => uptoBulk d + 1
  | .slice elems spare => uptoBulkAll elems + uptoBulkAll spare + 1
  | .agg parts => uptoBulkAll parts + 1
  | .iface _ d => uptoBulk d + 1
  | .map entries => uptoBulkEntries entries + 1
  | .held _ => 1
def uptoBulkAll {H : Type} : List (DataW H) → Nat
  | [] => 0
  | d :: r => uptoBulk d + uptoBulkAll r
def uptoBulkEntries {H : Type} : List (Lit × DataW H) → Nat
  | [] => 0
  | x :: r => uptoBulkEntry x + uptoBulkEntries r
def uptoBulkEntry {H : Type} : Lit × DataW H → Nat
  | (.string bytes, d) => bytes.length + uptoBulk d + 1
  | (_, d) => uptoBulk d + 1
 end
def uptoSmall : (H : Type) → List (DataW H) → Bool := fun _ ds => decide (uptoBulkAll ds ≤ 1048576)
def OpenSpec.upto (s : _root_.Go.ChangeSpec) : _root_.Go.OpenSpec := { _root_.Go.OpenSpec.ofChange s with cond := some uptoSmall }

/-- 'wicketgatelaw16.SnapsWalk', WHERE WHAT IT READS IS OF BULK AT MOST 1048576: true; the input reads as it did. -/
def snapsWalkUptoRow : OpenClaim := { program := "ytbcppmcjbcnlbaadoor", sum := "2089dd7e2ec737e0c2faa12d2fb5a081384602f74e2e5ea9fce16b1812065447", func := "wicketgate/wicketgatelaw16.SnapsWalk", spec := "snapsWalk", inPlace := ["internal/reflectlite.TypeOf"], unfollowed := true, recurses := true, named := ["wicketgate/snaps.errPool", "wicketgate/snaps.errArg", "wicketgate/snaps.errCursor"], apart := false, laid := [("wicketgate/snaps.errArg", laid_wicketgate_snaps_errArg), ("wicketgate/snaps.errPool", laid_wicketgate_snaps_errPool), ("wicketgate/snaps.errCursor", laid_wicketgate_snaps_errCursor)], narrowed := true }
def SnapsWalkUptoSaid : Prop := snapsWalkUptoRow.holds Tryd.pinned (OpenSpec.upto snapsWalkSpec)

/-- 'wicketgatelaw16.SnapsKeeps', WHERE WHAT IT READS IS OF BULK AT MOST 1048576: true; the input reads as it did. -/
def snapsKeepsUptoRow : OpenClaim := { program := "ytbcppmcjbcnlbaadoor", sum := "2089dd7e2ec737e0c2faa12d2fb5a081384602f74e2e5ea9fce16b1812065447", func := "wicketgate/wicketgatelaw16.SnapsKeeps", spec := "snapsKeeps", inPlace := ["internal/reflectlite.TypeOf"], unfollowed := true, recurses := true, named := ["wicketgate/snaps.errPool", "wicketgate/snaps.errArg", "wicketgate/snaps.errCursor"], apart := false, laid := [("wicketgate/snaps.errArg", laid_wicketgate_snaps_errArg), ("wicketgate/snaps.errPool", laid_wicketgate_snaps_errPool), ("wicketgate/snaps.errCursor", laid_wicketgate_snaps_errCursor)], narrowed := true }
def SnapsKeepsUptoSaid : Prop := snapsKeepsUptoRow.holds Tryd.pinned (OpenSpec.upto snapsKeepsSpec)

/-- 'wicketgatelaw16.SnapsOld', WHERE WHAT IT READS IS OF BULK AT MOST 1048576: true; the input reads as it did. -/
def snapsOldUptoRow : OpenClaim := { program := "ytbcppmcjbcnlbaadoor", sum := "2089dd7e2ec737e0c2faa12d2fb5a081384602f74e2e5ea9fce16b1812065447", func := "wicketgate/wicketgatelaw16.SnapsOld", spec := "snapsOld", inPlace := ["internal/reflectlite.TypeOf"], unfollowed := true, recurses := true, named := ["wicketgate/snaps.errPool", "wicketgate/snaps.errArg", "wicketgate/snaps.errCursor"], apart := false, laid := [("wicketgate/snaps.errArg", laid_wicketgate_snaps_errArg), ("wicketgate/snaps.errPool", laid_wicketgate_snaps_errPool), ("wicketgate/snaps.errCursor", laid_wicketgate_snaps_errCursor)], narrowed := true }
def SnapsOldUptoSaid : Prop := snapsOldUptoRow.holds Tryd.pinned (OpenSpec.upto snapsOldSpec)

/-- 'wicketgatelaw16.SnapsTwice', WHERE WHAT IT READS IS OF BULK AT MOST 1048576: true; the input reads as it did. -/
def snapsTwiceUptoRow : OpenClaim := { program := "ytbcppmcjbcnlbaadoor", sum := "2089dd7e2ec737e0c2faa12d2fb5a081384602f74e2e5ea9fce16b1812065447", func := "wicketgate/wicketgatelaw16.SnapsTwice", spec := "snapsTwice", inPlace := ["internal/reflectlite.TypeOf"], unfollowed := true, recurses := true, named := ["wicketgate/snaps.errPool", "wicketgate/snaps.errArg", "wicketgate/snaps.errCursor"], apart := false, laid := [("wicketgate/snaps.errArg", laid_wicketgate_snaps_errArg), ("wicketgate/snaps.errPool", laid_wicketgate_snaps_errPool), ("wicketgate/snaps.errCursor", laid_wicketgate_snaps_errCursor)], narrowed := true }
def SnapsTwiceUptoSaid : Prop := snapsTwiceUptoRow.holds Tryd.pinned (OpenSpec.upto snapsTwiceSpec)

/-- 'wicketgatelaw16.SnapsNone', WHERE WHAT IT READS IS OF BULK AT MOST 1048576: true; the input reads as it did. -/
def snapsNoneUptoRow : OpenClaim := { program := "ytbcppmcjbcnlbaadoor", sum := "2089dd7e2ec737e0c2faa12d2fb5a081384602f74e2e5ea9fce16b1812065447", func := "wicketgate/wicketgatelaw16.SnapsNone", spec := "snapsNone", inPlace := ["internal/reflectlite.TypeOf"], unfollowed := true, recurses := true, named := ["wicketgate/snaps.errPool", "wicketgate/snaps.errArg", "wicketgate/snaps.errCursor"], apart := false, laid := [("wicketgate/snaps.errArg", laid_wicketgate_snaps_errArg), ("wicketgate/snaps.errPool", laid_wicketgate_snaps_errPool), ("wicketgate/snaps.errCursor", laid_wicketgate_snaps_errCursor)], narrowed := true }
def SnapsNoneUptoSaid : Prop := snapsNoneUptoRow.holds Tryd.pinned (OpenSpec.upto snapsNoneSpec)

/-- 'wicketgatelaw16.SnapsTurns', WHERE WHAT IT READS IS OF BULK AT MOST 1048576: true; the input reads as it did. -/
def snapsTurnsUptoRow : OpenClaim := { program := "ytbcppmcjbcnlbaadoor", sum := "2089dd7e2ec737e0c2faa12d2fb5a081384602f74e2e5ea9fce16b1812065447", func := "wicketgate/wicketgatelaw16.SnapsTurns", spec := "snapsTurns", inPlace := ["internal/reflectlite.TypeOf"], unfollowed := true, recurses := true, named := ["wicketgate/snaps.errPool", "wicketgate/snaps.errArg", "wicketgate/snaps.errCursor"], apart := false, laid := [("wicketgate/snaps.errArg", laid_wicketgate_snaps_errArg), ("wicketgate/snaps.errPool", laid_wicketgate_snaps_errPool), ("wicketgate/snaps.errCursor", laid_wicketgate_snaps_errCursor)], narrowed := true }
def SnapsTurnsUptoSaid : Prop := snapsTurnsUptoRow.holds Tryd.pinned (OpenSpec.upto snapsTurnsSpec)

end Rows
end Go.Proofs.YtbcppmcjbcnlbaaDoor
