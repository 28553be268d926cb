/-
  NARROWER THAN 'FOR EVERY INPUT', by the rows' own cells (each row's printed sentence says how): WireCodes: laid · WireAll: laid · WireBack: laid · WireCuts: laid · WirePieces: laid · WireNumbers: laid · WireSizes: laid.
  DERIVED. THE GIVEN ROWS OF THIS SEAT. 7 by the template 'for every input the law returns true; each argument reads behind the call as it read before'; 0 by the template 'total and deterministic' (their statements: YtfedhhndkeakhaaDoorTotals.lean).
  GIVEN WITH THE SEED: the statements are not yours to turn. If you find one false, say at which input.
  Laid BY PROGRAM, IN A SANDBOX (cutbox-rows.mjs): the forced cells as the released guide's own fill.sh prints them over the translation ee163681a53c1fe4… (all of the seat's roots in one cut). By AI agents, Wed Nov 11 2026. No macro, syntax, notation, axiom, sorry.
-/
import Derived.Test.YtfedhhndkeakhaaDoorChecked
import GoSem.Claim
import GoSem.ClaimJoined
import GoSem.ClaimMapViews
import Derived.JoinedTies
import Derived.KernelRfl
namespace Go.Proofs.YtfedhhndkeakhaaDoor
/- THE CELL 'sum', in the pinned program and in every row, IS THE sha256 OF THE DUMP (.gsa) THAT YtfedhhndkeakhaaDoorProg.lean LOADS. Nothing in Lean hashes anything: it is a label: what it is worth is what the hold of that sum in a sandbox is worth. -/
noncomputable def Tryd.pinned : Pinned := { name := "ytfedhhndkeakhaadoor", sum := "ee163681a53c1fe4d3fdcf232764225953e392f75b49836aec7eee00a6a19192", checked := Tryd.checked }
namespace Rows
def none {H : Type} : Left H := { results := [], args := [] }

/- WHAT THE LISTED PACKAGE-LEVEL VARIABLES READ AS WHEN THE CALL BEGINS. Each datum BY PROGRAM (the guide's laid-datum.mjs) off the statement by which the dump's own 'gosem.cut.vars' lays the variable. In a bare row this is a premise. The card (YtfedhhndkeakhaaDoorCards.lean) ties it to the program's text. -/
def laid_wicketgate_wire_errArg {H : Type} : DataW H := .iface "*errors.errorString" (.ptr (.agg [.lit (.string [110, 111, 32, 112, 108, 97, 99, 101])]))
def laid_wicketgate_wire_errMore {H : Type} : DataW H := .iface "*errors.errorString" (.ptr (.agg [.lit (.string [116, 111, 111, 32, 115, 104, 111, 114, 116])]))
def laid_wicketgate_wire_errKind {H : Type} : DataW H := .iface "*errors.errorString" (.ptr (.agg [.lit (.string [110, 111, 32, 107, 105, 110, 100])]))
def laid_wicketgate_wire_errLong {H : Type} : DataW H := .iface "*errors.errorString" (.ptr (.agg [.lit (.string [116, 111, 111, 32, 108, 111, 110, 103])]))
def laid_wicketgate_wire_errFrame {H : Type} : DataW H := .iface "*errors.errorString" (.ptr (.agg [.lit (.string [110, 111, 32, 102, 114, 97, 109, 101])]))

/-- 'wicketgatelaw03.WireCodes': WHATEVER THE INPUT: true; the input reads as it did. -/
def wireCodesSpec : ChangeSpec := { name := "wireCodes", fn := fun _ => fun
  | [d1, d2, d3, d4] => { results := [.lit (.bool true)], args := [d1, d2, d3, d4] }
  | _ => none }
def wireCodesRow : OpenClaim := { program := "ytfedhhndkeakhaadoor", sum := "ee163681a53c1fe4d3fdcf232764225953e392f75b49836aec7eee00a6a19192", func := "wicketgate/wicketgatelaw03.WireCodes", spec := "wireCodes", inPlace := ["internal/reflectlite.TypeOf"], unfollowed := true, recurses := true, named := ["wicketgate/wire.errFrame", "wicketgate/wire.errArg", "wicketgate/wire.errMore", "wicketgate/wire.errKind", "wicketgate/wire.errLong"], apart := false, laid := [("wicketgate/wire.errArg", laid_wicketgate_wire_errArg), ("wicketgate/wire.errMore", laid_wicketgate_wire_errMore), ("wicketgate/wire.errKind", laid_wicketgate_wire_errKind), ("wicketgate/wire.errLong", laid_wicketgate_wire_errLong), ("wicketgate/wire.errFrame", laid_wicketgate_wire_errFrame)] }
def WireCodesSaid : Prop := wireCodesRow.holds Tryd.pinned (OpenSpec.ofChange wireCodesSpec)

/-- ITS FALSE NEIGHBOUR: 'it returns false'. Refute it at one input. -/
def wireCodesWrong : ChangeSpec := { name := "wireCodes", fn := fun _ => fun
  | [d1, d2, d3, d4] => { results := [.lit (.bool false)], args := [d1, d2, d3, d4] }
  | _ => none }
def WireCodesWrongFalsely : Prop := wireCodesRow.holds Tryd.pinned (OpenSpec.ofChange wireCodesWrong)

/-- 'wicketgatelaw03.WireAll': WHATEVER THE INPUT: true; the input reads as it did. -/
def wireAllSpec : ChangeSpec := { name := "wireAll", fn := fun _ => fun
  | [d] => { results := [.lit (.bool true)], args := [d] }
  | _ => none }
def wireAllRow : OpenClaim := { program := "ytfedhhndkeakhaadoor", sum := "ee163681a53c1fe4d3fdcf232764225953e392f75b49836aec7eee00a6a19192", func := "wicketgate/wicketgatelaw03.WireAll", spec := "wireAll", inPlace := ["internal/reflectlite.TypeOf"], unfollowed := true, recurses := true, named := ["wicketgate/wire.errFrame", "wicketgate/wire.errArg", "wicketgate/wire.errMore", "wicketgate/wire.errKind", "wicketgate/wire.errLong"], apart := false, laid := [("wicketgate/wire.errArg", laid_wicketgate_wire_errArg), ("wicketgate/wire.errMore", laid_wicketgate_wire_errMore), ("wicketgate/wire.errKind", laid_wicketgate_wire_errKind), ("wicketgate/wire.errLong", laid_wicketgate_wire_errLong), ("wicketgate/wire.errFrame", laid_wicketgate_wire_errFrame)] }
def WireAllSaid : Prop := wireAllRow.holds Tryd.pinned (OpenSpec.ofChange wireAllSpec)

/-- ITS FALSE NEIGHBOUR: 'it returns false'. Refute it at one input. -/
def wireAllWrong : ChangeSpec := { name := "wireAll", fn := fun _ => fun
  | [d] => { results := [.lit (.bool false)], args := [d] }
  | _ => none }
def WireAllWrongFalsely : Prop := wireAllRow.holds Tryd.pinned (OpenSpec.ofChange wireAllWrong)

/-- 'wicketgatelaw03.WireBack': WHATEVER THE INPUT: true; the input reads as it did. -/
def wireBackSpec : ChangeSpec := { name := "wireBack", fn := fun _ => fun
  | [d1, d2, d3] => { results := [.lit (.bool true)], args := [d1, d2, d3] }
  | _ => none }
def wireBackRow : OpenClaim := { program := "ytfedhhndkeakhaadoor", sum := "ee163681a53c1fe4d3fdcf232764225953e392f75b49836aec7eee00a6a19192", func := "wicketgate/wicketgatelaw03.WireBack", spec := "wireBack", inPlace := ["internal/reflectlite.TypeOf"], unfollowed := true, recurses := true, named := ["wicketgate/wire.errFrame", "wicketgate/wire.errArg", "wicketgate/wire.errMore", "wicketgate/wire.errKind", "wicketgate/wire.errLong"], apart := false, laid := [("wicketgate/wire.errArg", laid_wicketgate_wire_errArg), ("wicketgate/wire.errMore", laid_wicketgate_wire_errMore), ("wicketgate/wire.errKind", laid_wicketgate_wire_errKind), ("wicketgate/wire.errLong", laid_wicketgate_wire_errLong), ("wicketgate/wire.errFrame", laid_wicketgate_wire_errFrame)] }
def WireBackSaid : Prop := wireBackRow.holds Tryd.pinned (OpenSpec.ofChange wireBackSpec)

/-- ITS FALSE NEIGHBOUR: 'it returns false'. Refute it at one input. -/
def wireBackWrong : ChangeSpec := { name := "wireBack", fn := fun _ => fun
  | [d1, d2, d3] => { results := [.lit (.bool false)], args := [d1, d2, d3] }
  | _ => none }
def WireBackWrongFalsely : Prop := wireBackRow.holds Tryd.pinned (OpenSpec.ofChange wireBackWrong)

/-- 'wicketgatelaw03.WireCuts': WHATEVER THE INPUT: true; the input reads as it did. -/
def wireCutsSpec : ChangeSpec := { name := "wireCuts", fn := fun _ => fun
  | [d1, d2] => { results := [.lit (.bool true)], args := [d1, d2] }
  | _ => none }
def wireCutsRow : OpenClaim := { program := "ytfedhhndkeakhaadoor", sum := "ee163681a53c1fe4d3fdcf232764225953e392f75b49836aec7eee00a6a19192", func := "wicketgate/wicketgatelaw03.WireCuts", spec := "wireCuts", inPlace := ["internal/reflectlite.TypeOf"], unfollowed := true, recurses := true, named := ["wicketgate/wire.errFrame", "wicketgate/wire.errArg", "wicketgate/wire.errMore", "wicketgate/wire.errKind", "wicketgate/wire.errLong"], apart := false, laid := [("wicketgate/wire.errArg", laid_wicketgate_wire_errArg), ("wicketgate/wire.errMore", laid_wicketgate_wire_errMore), ("wicketgate/wire.errKind", laid_wicketgate_wire_errKind), ("wicketgate/wire.errLong", laid_wicketgate_wire_errLong), ("wicketgate/wire.errFrame", laid_wicketgate_wire_errFrame)] }
def WireCutsSaid : Prop := wireCutsRow.holds Tryd.pinned (OpenSpec.ofChange wireCutsSpec)

/-- ITS FALSE NEIGHBOUR: 'it returns false'. Refute it at one input. -/
def wireCutsWrong : ChangeSpec := { name := "wireCuts", fn := fun _ => fun
  | [d1, d2] => { results := [.lit (.bool false)], args := [d1, d2] }
  | _ => none }
def WireCutsWrongFalsely : Prop := wireCutsRow.holds Tryd.pinned (OpenSpec.ofChange wireCutsWrong)

/-- 'wicketgatelaw03.WirePieces': WHATEVER THE INPUT: true; the input reads as it did. -/
def wirePiecesSpec : ChangeSpec := { name := "wirePieces", fn := fun _ => fun
  | [d1, d2] => { results := [.lit (.bool true)], args := [d1, d2] }
  | _ => none }
def wirePiecesRow : OpenClaim := { program := "ytfedhhndkeakhaadoor", sum := "ee163681a53c1fe4d3fdcf232764225953e392f75b49836aec7eee00a6a19192", func := "wicketgate/wicketgatelaw03.WirePieces", spec := "wirePieces", inPlace := ["internal/reflectlite.TypeOf"], unfollowed := true, recurses := true, named := ["wicketgate/wire.errFrame", "wicketgate/wire.errArg", "wicketgate/wire.errMore", "wicketgate/wire.errKind", "wicketgate/wire.errLong"], apart := false, laid := [("wicketgate/wire.errArg", laid_wicketgate_wire_errArg), ("wicketgate/wire.errMore", laid_wicketgate_wire_errMore), ("wicketgate/wire.errKind", laid_wicketgate_wire_errKind), ("wicketgate/wire.errLong", laid_wicketgate_wire_errLong), ("wicketgate/wire.errFrame", laid_wicketgate_wire_errFrame)] }
def WirePiecesSaid : Prop := wirePiecesRow.holds Tryd.pinned (OpenSpec.ofChange wirePiecesSpec)

/-- ITS FALSE NEIGHBOUR: 'it returns false'. Refute it at one input. -/
def wirePiecesWrong : ChangeSpec := { name := "wirePieces", fn := fun _ => fun
  | [d1, d2] => { results := [.lit (.bool false)], args := [d1, d2] }
  | _ => none }
def WirePiecesWrongFalsely : Prop := wirePiecesRow.holds Tryd.pinned (OpenSpec.ofChange wirePiecesWrong)

/-- 'wicketgatelaw03.WireNumbers': WHATEVER THE INPUT: true; the input reads as it did. -/
def wireNumbersSpec : ChangeSpec := { name := "wireNumbers", fn := fun _ => fun
  | [d1, d2] => { results := [.lit (.bool true)], args := [d1, d2] }
  | _ => none }
def wireNumbersRow : OpenClaim := { program := "ytfedhhndkeakhaadoor", sum := "ee163681a53c1fe4d3fdcf232764225953e392f75b49836aec7eee00a6a19192", func := "wicketgate/wicketgatelaw03.WireNumbers", spec := "wireNumbers", inPlace := ["internal/reflectlite.TypeOf"], unfollowed := true, recurses := true, named := ["wicketgate/wire.errFrame", "wicketgate/wire.errArg", "wicketgate/wire.errMore", "wicketgate/wire.errKind", "wicketgate/wire.errLong"], apart := false, laid := [("wicketgate/wire.errArg", laid_wicketgate_wire_errArg), ("wicketgate/wire.errMore", laid_wicketgate_wire_errMore), ("wicketgate/wire.errKind", laid_wicketgate_wire_errKind), ("wicketgate/wire.errLong", laid_wicketgate_wire_errLong), ("wicketgate/wire.errFrame", laid_wicketgate_wire_errFrame)] }
def WireNumbersSaid : Prop := wireNumbersRow.holds Tryd.pinned (OpenSpec.ofChange wireNumbersSpec)

/-- ITS FALSE NEIGHBOUR: 'it returns false'. Refute it at one input. -/
def wireNumbersWrong : ChangeSpec := { name := "wireNumbers", fn := fun _ => fun
  | [d1, d2] => { results := [.lit (.bool false)], args := [d1, d2] }
  | _ => none }
def WireNumbersWrongFalsely : Prop := wireNumbersRow.holds Tryd.pinned (OpenSpec.ofChange wireNumbersWrong)

/-- 'wicketgatelaw03.WireSizes': WHATEVER THE INPUT: true; the input reads as it did. -/
def wireSizesSpec : ChangeSpec := { name := "wireSizes", fn := fun _ => fun
  | [d] => { results := [.lit (.bool true)], args := [d] }
  | _ => none }
def wireSizesRow : OpenClaim := { program := "ytfedhhndkeakhaadoor", sum := "ee163681a53c1fe4d3fdcf232764225953e392f75b49836aec7eee00a6a19192", func := "wicketgate/wicketgatelaw03.WireSizes", spec := "wireSizes", inPlace := ["internal/reflectlite.TypeOf"], unfollowed := true, recurses := true, named := ["wicketgate/wire.errFrame", "wicketgate/wire.errArg", "wicketgate/wire.errMore", "wicketgate/wire.errKind", "wicketgate/wire.errLong"], apart := false, laid := [("wicketgate/wire.errArg", laid_wicketgate_wire_errArg), ("wicketgate/wire.errMore", laid_wicketgate_wire_errMore), ("wicketgate/wire.errKind", laid_wicketgate_wire_errKind), ("wicketgate/wire.errLong", laid_wicketgate_wire_errLong), ("wicketgate/wire.errFrame", laid_wicketgate_wire_errFrame)] }
def WireSizesSaid : Prop := wireSizesRow.holds Tryd.pinned (OpenSpec.ofChange wireSizesSpec)

/-- ITS FALSE NEIGHBOUR: 'it returns false'. Refute it at one input. -/
def wireSizesWrong : ChangeSpec := { name := "wireSizes", fn := fun _ => fun
  | [d] => { results := [.lit (.bool false)], args := [d] }
  | _ => none }
def WireSizesWrongFalsely : Prop := wireSizesRow.holds Tryd.pinned (OpenSpec.ofChange wireSizesWrong)

/- THE SECOND FORM. 'bulk': how many values and letters a reading holds, each counted each time it is reached (what is shared counts as often as it is met; a slice's spare places count too). A statement '..UptoSaid' is the law's where the arguments, and the package variables that the reading takes, are together of bulk at most 1048576: NARROWER than '..Said'. Prove '..Said' where nothing that the law and all that it calls make is longer than what came in: it says more and counts as full. Else prove '..UptoSaid'. A law counts once. -/
mutual
def uptoBulk {H : Type} : DataW H → Nat
  | .lit (.string bytes) => bytes.length + 1
  | .lit _ => 1
  | .nil => 1
  | .ptr d => uptoBulk d + 1
  | .slice elems spare => uptoBulkAll elems + uptoBulkAll spare + 1
  | .agg parts => uptoBulkAll parts + 1
  | .iface _ d => uptoBulk d + 1
  | .map entries => uptoBulkEntries entries + 1
  | .held _ => 1
def uptoBulkAll {H : Type} : List (DataW H) → Nat
  | [] => 0
  | d :: r => uptoBulk d + uptoBulkAll r
def uptoBulkEntries {H : Type} : List (Lit × DataW H) → Nat
  | [] => 0
  | x :: r => uptoBulkEntry x + uptoBulkEntries r
def uptoBulkEntry {H : Type} : Lit × DataW H → Nat
  | (.string bytes, d) => bytes.length + uptoBulk d + 1
  | (_, d) => uptoBulk d + 1
 end
def uptoSmall : (H : Type) → List (DataW H) → Bool := fun _ ds => decide (uptoBulkAll ds ≤ 1048576)
def OpenSpec.upto (s : _root_.Go.ChangeSpec) : _root_.Go.OpenSpec := { _root_.Go.OpenSpec.ofChange s with cond := some uptoSmall }

/-- 'wicketgatelaw03.WireCodes', WHERE WHAT IT READS IS OF BULK AT MOST 1048576: true; the input reads as it did. -/
def wireCodesUptoRow : OpenClaim := { program := "ytfedhhndkeakhaadoor", sum := "ee163681a53c1fe4d3fdcf232764225953e392f75b49836aec7eee00a6a19192", func := "wicketgate/wicketgatelaw03.WireCodes", spec := "wireCodes", inPlace := ["internal/reflectlite.TypeOf"], unfollowed := true, recurses := true, named := ["wicketgate/wire.errFrame", "wicketgate/wire.errArg", "wicketgate/wire.errMore", "wicketgate/wire.errKind", "wicketgate/wire.errLong"], apart := false, laid := [("wicketgate/wire.errArg", laid_wicketgate_wire_errArg), ("wicketgate/wire.errMore", laid_wicketgate_wire_errMore), ("wicketgate/wire.errKind", laid_wicketgate_wire_errKind), ("wicketgate/wire.errLong", laid_wicketgate_wire_errLong), ("wicketgate/wire.errFrame", laid_wicketgate_wire_errFrame)], narrowed := true }
def WireCodesUptoSaid : Prop := wireCodesUptoRow.holds Tryd.pinned (OpenSpec.upto wireCodesSpec)

/-- 'wicketgatelaw03.WireAll', WHERE WHAT IT READS IS OF BULK AT MOST 1048576: true; the input reads as it did. -/
def wireAllUptoRow : OpenClaim := { program := "ytfedhhndkeakhaadoor", sum := "ee163681a53c1fe4d3fdcf232764225953e392f75b49836aec7eee00a6a19192", func := "wicketgate/wicketgatelaw03.WireAll", spec := "wireAll", inPlace := ["internal/reflectlite.TypeOf"], unfollowed := true, recurses := true, named := ["wicketgate/wire.errFrame", "wicketgate/wire.errArg", "wicketgate/wire.errMore", "wicketgate/wire.errKind", "wicketgate/wire.errLong"], apart := false, laid := [("wicketgate/wire.errArg", laid_wicketgate_wire_errArg), ("wicketgate/wire.errMore", laid_wicketgate_wire_errMore), ("wicketgate/wire.errKind", laid_wicketgate_wire_errKind), ("wicketgate/wire.errLong", laid_wicketgate_wire_errLong), ("wicketgate/wire.errFrame", laid_wicketgate_wire_errFrame)], narrowed := true }
def WireAllUptoSaid : Prop := wireAllUptoRow.holds Tryd.pinned (OpenSpec.upto wireAllSpec)

/-- 'wicketgatelaw03.WireBack', WHERE WHAT IT READS IS OF BULK AT MOST 1048576: true; the input reads as it did. -/
def wireBackUptoRow : OpenClaim := { program := "ytfedhhndkeakhaadoor", sum := "ee163681a53c1fe4d3fdcf232764225953e392f75b49836aec7eee00a6a19192", func := "wicketgate/wicketgatelaw03.WireBack", spec := "wireBack", inPlace := ["internal/reflectlite.TypeOf"], unfollowed := true, recurses := true, named := ["wicketgate/wire.errFrame", "wicketgate/wire.errArg", "wicketgate/wire.errMore", "wicketgate/wire.errKind", "wicketgate/wire.errLong"], apart := false, laid := [("wicketgate/wire.errArg", laid_wicketgate_wire_errArg), ("wicketgate/wire.errMore", laid_wicketgate_wire_errMore), ("wicketgate/wire.errKind", laid_wicketgate_wire_errKind), ("wicketgate/wire.errLong", laid_wicketgate_wire_errLong), ("wicketgate/wire.errFrame", laid_wicketgate_wire_errFrame)], narrowed := true }
def WireBackUptoSaid : Prop := wireBackUptoRow.holds Tryd.pinned (OpenSpec.upto wireBackSpec)

/-- 'wicketgatelaw03.WireCuts', WHERE WHAT IT READS IS OF BULK AT MOST 1048576: true; the input reads as it did. -/
def wireCutsUptoRow : OpenClaim := { program := "ytfedhhndkeakhaadoor", sum := "ee163681a53c1fe4d3fdcf232764225953e392f75b49836aec7eee00a6a19192", func := "wicketgate/wicketgatelaw03.WireCuts", spec := "wireCuts", inPlace := ["internal/reflectlite.TypeOf"], unfollowed := true, recurses := true, named := ["wicketgate/wire.errFrame", "wicketgate/wire.errArg", "wicketgate/wire.errMore", "wicketgate/wire.errKind", "wicketgate/wire.errLong"], apart := false, laid := [("wicketgate/wire.errArg", laid_wicketgate_wire_errArg), ("wicketgate/wire.errMore", laid_wicketgate_wire_errMore), ("wicketgate/wire.errKind", laid_wicketgate_wire_errKind), ("wicketgate/wire.errLong", laid_wicketgate_wire_errLong), ("wicketgate/wire.errFrame", laid_wicketgate_wire_errFrame)], narrowed := true }
def WireCutsUptoSaid : Prop := wireCutsUptoRow.holds Tryd.pinned (OpenSpec.upto wireCutsSpec)

/-- 'wicketgatelaw03.WirePieces', WHERE WHAT IT READS IS OF BULK AT MOST 1048576: true; the input reads as it did. -/
def wirePiecesUptoRow : OpenClaim := { program := "ytfedhhndkeakhaadoor", sum := "ee163681a53c1fe4d3fdcf232764225953e392f75b49836aec7eee00a6a19192", func := "wicketgate/wicketgatelaw03.WirePieces", spec := "wirePieces", inPlace := ["internal/reflectlite.TypeOf"], unfollowed := true, recurses := true, named := ["wicketgate/wire.errFrame", "wicketgate/wire.errArg", "wicketgate/wire.errMore", "wicketgate/wire.errKind", "wicketgate/wire.errLong"], apart := false, laid := [("wicketgate/wire.errArg", laid_wicketgate_wire_errArg), ("wicketgate/wire.errMore", laid_wicketgate_wire_errMore), ("wicketgate/wire.errKind", laid_wicketgate_wire_errKind), ("wicketgate/wire.errLong", laid_wicketgate_wire_errLong), ("wicketgate/wire.errFrame", laid_wicketgate_wire_errFrame)], narrowed := true }
def WirePiecesUptoSaid : Prop := wirePiecesUptoRow.holds Tryd.pinned (OpenSpec.upto wirePiecesSpec)

/-- 'wicketgatelaw03.WireNumbers', WHERE WHAT IT READS IS OF BULK AT MOST 1048576: true; the input reads as it did. -/
def wireNumbersUptoRow : OpenClaim := { program := "ytfedhhndkeakhaadoor", sum := "ee163681a53c1fe4d3fdcf232764225953e392f75b49836aec7eee00a6a19192", func := "wicketgate/wicketgatelaw03.WireNumbers", spec := "wireNumbers", inPlace := ["internal/reflectlite.TypeOf"], unfollowed := true, recurses := true, named := ["wicketgate/wire.errFrame", "wicketgate/wire.errArg", "wicketgate/wire.errMore", "wicketgate/wire.errKind", "wicketgate/wire.errLong"], apart := false, laid := [("wicketgate/wire.errArg", laid_wicketgate_wire_errArg), ("wicketgate/wire.errMore", laid_wicketgate_wire_errMore), ("wicketgate/wire.errKind", laid_wicketgate_wire_errKind), ("wicketgate/wire.errLong", laid_wicketgate_wire_errLong), ("wicketgate/wire.errFrame", laid_wicketgate_wire_errFrame)], narrowed := true }
def WireNumbersUptoSaid : Prop := wireNumbersUptoRow.holds Tryd.pinned (OpenSpec.upto wireNumbersSpec)

/-- 'wicketgatelaw03.WireSizes', WHERE WHAT IT READS IS OF BULK AT MOST 1048576: true; the input reads as it did. -/
def wireSizesUptoRow : OpenClaim := { program := "ytfedhhndkeakhaadoor", sum := "ee163681a53c1fe4d3fdcf232764225953e392f75b49836aec7eee00a6a19192", func := "wicketgate/wicketgatelaw03.WireSizes", spec := "wireSizes", inPlace := ["internal/reflectlite.TypeOf"], unfollowed := true, recurses := true, named := ["wicketgate/wire.errFrame", "wicketgate/wire.errArg", "wicketgate/wire.errMore", "wicketgate/wire.errKind", "wicketgate/wire.errLong"], apart := false, laid := [("wicketgate/wire.errArg", laid_wicketgate_wire_errArg), ("wicketgate/wire.errMore", laid_wicketgate_wire_errMore), ("wicketgate/wire.errKind", laid_wicketgate_wire_errKind), ("wicketgate/wire.errLong", laid_wicketgate_wire_errLong), ("wicketgate/wire.errFrame", laid_wicketgate_wire_errFrame)], narrowed := true }
def WireSizesUptoSaid : Prop := wireSizesUptoRow.holds Tryd.pinned (OpenSpec.upto wireSizesSpec)

end Rows
end Go.Proofs.YtfedhhndkeakhaaDoor
