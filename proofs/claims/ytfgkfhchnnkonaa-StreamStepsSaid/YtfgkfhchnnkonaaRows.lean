/-
  No cell of these rows narrows 'for every input' (looked for: loops, veiled, ifaces, maps, wideKeys, modest, calm, conditions, laid).
  DERIVED. THE GIVEN ROWS OF THIS SEAT. 7 by the template 'for every input the law returns true; each argument reads behind the call as it read before'; 0 by the template 'total and deterministic' (their statements: YtfgkfhchnnkonaaTotals.lean).
  GIVEN WITH THE SEED: the statements are not yours to turn. If you find one false, say at which input.
  Laid BY PROGRAM, IN A SANDBOX (cutbox-rows.mjs): the forced cells as the released guide's own fill.sh prints them over the translation 56d7afa98d6ec05e… (all of the seat's roots in one cut). By AI agents, Wed Nov 11 2026. No macro, syntax, notation, axiom, sorry.
-/
import Derived.Test.YtfgkfhchnnkonaaChecked
import GoSem.Claim
import GoSem.ClaimJoined
import GoSem.ClaimMapViews
import Derived.JoinedTies
import Derived.KernelRfl
namespace Go.Proofs.Ytfgkfhchnnkonaa
/- THE CELL 'sum', in the pinned program and in every row, IS THE sha256 OF THE DUMP (.gsa) THAT YtfgkfhchnnkonaaProg.lean LOADS. Nothing in Lean hashes anything: it is a label: what it is worth is what the hold of that sum in a sandbox is worth. -/
noncomputable def Try.pinned : Pinned := { name := "ytfgkfhchnnkonaa", sum := "56d7afa98d6ec05ef0e07086e64ba5e9cc3b1d99afa070a2c34a89d71d93c067", checked := Try.checked }
namespace Rows
def none {H : Type} : Left H := { results := [], args := [] }

/-- 'wicketgatelaw14.StreamParts': WHATEVER THE INPUT: true; the input reads as it did. -/
def streamPartsSpec : ChangeSpec := { name := "streamParts", fn := fun _ => fun
  | [d1, d2, d3] => { results := [.lit (.bool true)], args := [d1, d2, d3] }
  | _ => none }
def streamPartsRow : OpenClaim := { program := "ytfgkfhchnnkonaa", sum := "56d7afa98d6ec05ef0e07086e64ba5e9cc3b1d99afa070a2c34a89d71d93c067", func := "wicketgate/wicketgatelaw14.StreamParts", spec := "streamParts", unfollowed := true, recurses := true, apart := false }
def StreamPartsSaid : Prop := streamPartsRow.holds Try.pinned (OpenSpec.ofChange streamPartsSpec)

/-- ITS FALSE NEIGHBOUR: 'it returns false'. Refute it at one input. -/
def streamPartsWrong : ChangeSpec := { name := "streamParts", fn := fun _ => fun
  | [d1, d2, d3] => { results := [.lit (.bool false)], args := [d1, d2, d3] }
  | _ => none }
def StreamPartsWrongFalsely : Prop := streamPartsRow.holds Try.pinned (OpenSpec.ofChange streamPartsWrong)

/-- 'wicketgatelaw14.StreamLeast': WHATEVER THE INPUT: true; the input reads as it did. -/
def streamLeastSpec : ChangeSpec := { name := "streamLeast", fn := fun _ => fun
  | [d1, d2] => { results := [.lit (.bool true)], args := [d1, d2] }
  | _ => none }
def streamLeastRow : OpenClaim := { program := "ytfgkfhchnnkonaa", sum := "56d7afa98d6ec05ef0e07086e64ba5e9cc3b1d99afa070a2c34a89d71d93c067", func := "wicketgate/wicketgatelaw14.StreamLeast", spec := "streamLeast", unfollowed := true, recurses := true, apart := false }
def StreamLeastSaid : Prop := streamLeastRow.holds Try.pinned (OpenSpec.ofChange streamLeastSpec)

/-- ITS FALSE NEIGHBOUR: 'it returns false'. Refute it at one input. -/
def streamLeastWrong : ChangeSpec := { name := "streamLeast", fn := fun _ => fun
  | [d1, d2] => { results := [.lit (.bool false)], args := [d1, d2] }
  | _ => none }
def StreamLeastWrongFalsely : Prop := streamLeastRow.holds Try.pinned (OpenSpec.ofChange streamLeastWrong)

/-- 'wicketgatelaw14.StreamFirst': WHATEVER THE INPUT: true; the input reads as it did. -/
def streamFirstSpec : ChangeSpec := { name := "streamFirst", fn := fun _ => fun
  | [d1, d2] => { results := [.lit (.bool true)], args := [d1, d2] }
  | _ => none }
def streamFirstRow : OpenClaim := { program := "ytfgkfhchnnkonaa", sum := "56d7afa98d6ec05ef0e07086e64ba5e9cc3b1d99afa070a2c34a89d71d93c067", func := "wicketgate/wicketgatelaw14.StreamFirst", spec := "streamFirst", unfollowed := true, recurses := true, apart := false }
def StreamFirstSaid : Prop := streamFirstRow.holds Try.pinned (OpenSpec.ofChange streamFirstSpec)

/-- ITS FALSE NEIGHBOUR: 'it returns false'. Refute it at one input. -/
def streamFirstWrong : ChangeSpec := { name := "streamFirst", fn := fun _ => fun
  | [d1, d2] => { results := [.lit (.bool false)], args := [d1, d2] }
  | _ => none }
def StreamFirstWrongFalsely : Prop := streamFirstRow.holds Try.pinned (OpenSpec.ofChange streamFirstWrong)

/-- 'wicketgatelaw14.StreamSteps': WHATEVER THE INPUT: true; the input reads as it did. -/
def streamStepsSpec : ChangeSpec := { name := "streamSteps", fn := fun _ => fun
  | [d1, d2, d3] => { results := [.lit (.bool true)], args := [d1, d2, d3] }
  | _ => none }
def streamStepsRow : OpenClaim := { program := "ytfgkfhchnnkonaa", sum := "56d7afa98d6ec05ef0e07086e64ba5e9cc3b1d99afa070a2c34a89d71d93c067", func := "wicketgate/wicketgatelaw14.StreamSteps", spec := "streamSteps", unfollowed := true, recurses := true, apart := false }
def StreamStepsSaid : Prop := streamStepsRow.holds Try.pinned (OpenSpec.ofChange streamStepsSpec)

/-- ITS FALSE NEIGHBOUR: 'it returns false'. Refute it at one input. -/
def streamStepsWrong : ChangeSpec := { name := "streamSteps", fn := fun _ => fun
  | [d1, d2, d3] => { results := [.lit (.bool false)], args := [d1, d2, d3] }
  | _ => none }
def StreamStepsWrongFalsely : Prop := streamStepsRow.holds Try.pinned (OpenSpec.ofChange streamStepsWrong)

/-- 'wicketgatelaw14.StreamEnds': WHATEVER THE INPUT: true; the input reads as it did. -/
def streamEndsSpec : ChangeSpec := { name := "streamEnds", fn := fun _ => fun
  | [d1, d2] => { results := [.lit (.bool true)], args := [d1, d2] }
  | _ => none }
def streamEndsRow : OpenClaim := { program := "ytfgkfhchnnkonaa", sum := "56d7afa98d6ec05ef0e07086e64ba5e9cc3b1d99afa070a2c34a89d71d93c067", func := "wicketgate/wicketgatelaw14.StreamEnds", spec := "streamEnds", unfollowed := true, recurses := true, apart := false }
def StreamEndsSaid : Prop := streamEndsRow.holds Try.pinned (OpenSpec.ofChange streamEndsSpec)

/-- ITS FALSE NEIGHBOUR: 'it returns false'. Refute it at one input. -/
def streamEndsWrong : ChangeSpec := { name := "streamEnds", fn := fun _ => fun
  | [d1, d2] => { results := [.lit (.bool false)], args := [d1, d2] }
  | _ => none }
def StreamEndsWrongFalsely : Prop := streamEndsRow.holds Try.pinned (OpenSpec.ofChange streamEndsWrong)

/-- 'wicketgatelaw14.StreamSides': WHATEVER THE INPUT: true; the input reads as it did. -/
def streamSidesSpec : ChangeSpec := { name := "streamSides", fn := fun _ => fun
  | [d1, d2, d3] => { results := [.lit (.bool true)], args := [d1, d2, d3] }
  | _ => none }
def streamSidesRow : OpenClaim := { program := "ytfgkfhchnnkonaa", sum := "56d7afa98d6ec05ef0e07086e64ba5e9cc3b1d99afa070a2c34a89d71d93c067", func := "wicketgate/wicketgatelaw14.StreamSides", spec := "streamSides", unfollowed := true, recurses := true, apart := false }
def StreamSidesSaid : Prop := streamSidesRow.holds Try.pinned (OpenSpec.ofChange streamSidesSpec)

/-- ITS FALSE NEIGHBOUR: 'it returns false'. Refute it at one input. -/
def streamSidesWrong : ChangeSpec := { name := "streamSides", fn := fun _ => fun
  | [d1, d2, d3] => { results := [.lit (.bool false)], args := [d1, d2, d3] }
  | _ => none }
def StreamSidesWrongFalsely : Prop := streamSidesRow.holds Try.pinned (OpenSpec.ofChange streamSidesWrong)

/-- 'wicketgatelaw14.StreamEither': WHATEVER THE INPUT: true; the input reads as it did. -/
def streamEitherSpec : ChangeSpec := { name := "streamEither", fn := fun _ => fun
  | [d] => { results := [.lit (.bool true)], args := [d] }
  | _ => none }
def streamEitherRow : OpenClaim := { program := "ytfgkfhchnnkonaa", sum := "56d7afa98d6ec05ef0e07086e64ba5e9cc3b1d99afa070a2c34a89d71d93c067", func := "wicketgate/wicketgatelaw14.StreamEither", spec := "streamEither", unfollowed := true, recurses := true, apart := false }
def StreamEitherSaid : Prop := streamEitherRow.holds Try.pinned (OpenSpec.ofChange streamEitherSpec)

/-- ITS FALSE NEIGHBOUR: 'it returns false'. Refute it at one input. -/
def streamEitherWrong : ChangeSpec := { name := "streamEither", fn := fun _ => fun
  | [d] => { results := [.lit (.bool false)], args := [d] }
  | _ => none }
def StreamEitherWrongFalsely : Prop := streamEitherRow.holds Try.pinned (OpenSpec.ofChange streamEitherWrong)

/- THE SECOND FORM. 'bulk': how many values and letters a reading holds, each counted each time it is reached (what is shared counts as often as it is met; a slice's spare places count too). A statement '..UptoSaid' is the law's where the arguments, and the package variables that the reading takes, are together of bulk at most 1048576: NARROWER than '..Said'. Prove '..Said' where nothing that the law and all that it calls make is longer than what came in: it says more and counts as full. Else prove '..UptoSaid'. A law counts once. -/
mutual
def uptoBulk {H : Type} : DataW H → Nat
  | .lit (.string bytes) => bytes.length + 1
  | .lit _ => 1
  | .nil => 1
  | .ptr d => uptoBulk d + 1
  | .slice elems spare => uptoBulkAll elems + uptoBulkAll spare + 1
  | .agg parts => uptoBulkAll parts + 1
  | .iface _ d => uptoBulk d + 1
  | .map entries => uptoBulkEntries entries + 1
  | .held _ => 1
def uptoBulkAll {H : Type} : List (DataW H) → Nat
  | [] => 0
  | d :: r => uptoBulk d + uptoBulkAll r
def uptoBulkEntries {H : Type} : List (Lit × DataW H) → Nat
  | [] => 0
  | x :: r => uptoBulkEntry x + uptoBulkEntries r
def uptoBulkEntry {H : Type} : Lit × DataW H → Nat
  | (.string bytes, d) => bytes.length + uptoBulk d + 1
  | (_, d) => uptoBulk d + 1
 end
def uptoSmall : (H : Type) → List (DataW H) → Bool := fun _ ds => decide (uptoBulkAll ds ≤ 1048576)
def OpenSpec.upto (s : _root_.Go.ChangeSpec) : _root_.Go.OpenSpec := { _root_.Go.OpenSpec.ofChange s with cond := some uptoSmall }

/-- 'wicketgatelaw14.StreamParts', WHERE WHAT IT READS IS OF BULK AT MOST 1048576: true; the input reads as it did. -/
def streamPartsUptoRow : OpenClaim := { program := "ytfgkfhchnnkonaa", sum := "56d7afa98d6ec05ef0e07086e64ba5e9cc3b1d99afa070a2c34a89d71d93c067", func := "wicketgate/wicketgatelaw14.StreamParts", spec := "streamParts", unfollowed := true, recurses := true, apart := false, narrowed := true }
def StreamPartsUptoSaid : Prop := streamPartsUptoRow.holds Try.pinned (OpenSpec.upto streamPartsSpec)

/-- 'wicketgatelaw14.StreamLeast', WHERE WHAT IT READS IS OF BULK AT MOST 1048576: true; the input reads as it did. -/
def streamLeastUptoRow : OpenClaim := { program := "ytfgkfhchnnkonaa", sum := "56d7afa98d6ec05ef0e07086e64ba5e9cc3b1d99afa070a2c34a89d71d93c067", func := "wicketgate/wicketgatelaw14.StreamLeast", spec := "streamLeast", unfollowed := true, recurses := true, apart := false, narrowed := true }
def StreamLeastUptoSaid : Prop := streamLeastUptoRow.holds Try.pinned (OpenSpec.upto streamLeastSpec)

/-- 'wicketgatelaw14.StreamFirst', WHERE WHAT IT READS IS OF BULK AT MOST 1048576: true; the input reads as it did. -/
def streamFirstUptoRow : OpenClaim := { program := "ytfgkfhchnnkonaa", sum := "56d7afa98d6ec05ef0e07086e64ba5e9cc3b1d99afa070a2c34a89d71d93c067", func := "wicketgate/wicketgatelaw14.StreamFirst", spec := "streamFirst", unfollowed := true, recurses := true, apart := false, narrowed := true }
def StreamFirstUptoSaid : Prop := streamFirstUptoRow.holds Try.pinned (OpenSpec.upto streamFirstSpec)

/-- 'wicketgatelaw14.StreamSteps', WHERE WHAT IT READS IS OF BULK AT MOST 1048576: true; the input reads as it did. -/
def streamStepsUptoRow : OpenClaim := { program := "ytfgkfhchnnkonaa", sum := "56d7afa98d6ec05ef0e07086e64ba5e9cc3b1d99afa070a2c34a89d71d93c067", func := "wicketgate/wicketgatelaw14.StreamSteps", spec := "streamSteps", unfollowed := true, recurses := true, apart := false, narrowed := true }
def StreamStepsUptoSaid : Prop := streamStepsUptoRow.holds Try.pinned (OpenSpec.upto streamStepsSpec)

/-- 'wicketgatelaw14.StreamEnds', WHERE WHAT IT READS IS OF BULK AT MOST 1048576: true; the input reads as it did. -/
def streamEndsUptoRow : OpenClaim := { program := "ytfgkfhchnnkonaa", sum := "56d7afa98d6ec05ef0e07086e64ba5e9cc3b1d99afa070a2c34a89d71d93c067", func := "wicketgate/wicketgatelaw14.StreamEnds", spec := "streamEnds", unfollowed := true, recurses := true, apart := false, narrowed := true }
def StreamEndsUptoSaid : Prop := streamEndsUptoRow.holds Try.pinned (OpenSpec.upto streamEndsSpec)

/-- 'wicketgatelaw14.StreamSides', WHERE WHAT IT READS IS OF BULK AT MOST 1048576: true; the input reads as it did. -/
def streamSidesUptoRow : OpenClaim := { program := "ytfgkfhchnnkonaa", sum := "56d7afa98d6ec05ef0e07086e64ba5e9cc3b1d99afa070a2c34a89d71d93c067", func := "wicketgate/wicketgatelaw14.StreamSides", spec := "streamSides", unfollowed := true, recurses := true, apart := false, narrowed := true }
def StreamSidesUptoSaid : Prop := streamSidesUptoRow.holds Try.pinned (OpenSpec.upto streamSidesSpec)

/-- 'wicketgatelaw14.StreamEither', WHERE WHAT IT READS IS OF BULK AT MOST 1048576: true; the input reads as it did. -/
def streamEitherUptoRow : OpenClaim := { program := "ytfgkfhchnnkonaa", sum := "56d7afa98d6ec05ef0e07086e64ba5e9cc3b1d99afa070a2c34a89d71d93c067", func := "wicketgate/wicketgatelaw14.StreamEither", spec := "streamEither", unfollowed := true, recurses := true, apart := false, narrowed := true }
def StreamEitherUptoSaid : Prop := streamEitherUptoRow.holds Try.pinned (OpenSpec.upto streamEitherSpec)

end Rows
end Go.Proofs.Ytfgkfhchnnkonaa
