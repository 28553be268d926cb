/- From a statement's walk to its row and to its card: what the listed sentinels give. -/
import Derived.Test.YtfedhhndkeakhaaDoorWireO
import Derived.Test.YtfedhhndkeakhaaDoorLaw
import Derived.Test.YtfedhhndkeakhaaDoorTie
import Derived.Test.YtfedhhndkeakhaaDoorCards
import Derived.LaidMore
import Derived.Stop.Joined
import Derived.SevenTiedAt
import Derived.Deep.Slices
import Derived.Deep.Fields
import Derived.Lib.SmallJoins
namespace Go.Proofs.YtfedhhndkeakhaaDoor
open Go.ChangeShapes Go.WideShapes Go.ChangeAt Go.RowKit

theorem own : ownKnob Tryd.prog.godebug = none := by kernel_rfl
noncomputable def wlaid : List (String × DataW Unit) := Rows.wireCodesRow.laid
theorem door_met (os : Os) (args : Array Value) : laidMetH Tryd.prog wlaid ((World.doorLaid Tryd.prog 400 os).forCall (fun _ _ => 0) ⟨#[], args, []⟩).memory :=
  laidMetH_of_parts3 (fuel := 8) (laidMet_of_run' 8 (by kernel_rfl) (by kernel_rfl)) (by kernel_rfl) (by kernel_rfl)
theorem star : "*" ++ "errors.errorString" = "*errors.errorString" := by decide
theorem row_err (u : TypeId) (h : Tryd.prog.typeName? 3 u = some "*errors.errorString") : u = 90 :=
  typeName_ptr_named (nm := "errors.errorString") (by rw [star]; kernel_rfl) (by kernel_rfl) (by decide) u (by rw [star]; exact h)
def wsents : List (String × Nat × List UInt8) := [("wicketgate/wire.errArg", 1, [110, 111, 32, 112, 108, 97, 99, 101]), ("wicketgate/wire.errMore", 2, [116, 111, 111, 32, 115, 104, 111, 114, 116]), ("wicketgate/wire.errKind", 3, [110, 111, 32, 107, 105, 110, 100]), ("wicketgate/wire.errLong", 4, [116, 111, 111, 32, 108, 111, 110, 103]), ("wicketgate/wire.errFrame", 0, [110, 111, 32, 102, 114, 97, 109, 101])]
theorem wlaid_eq : wlaid = wsents.map (sentD "*errors.errorString") := rfl
theorem env_of_laid {W : World} (h : laidMetH Tryd.prog wlaid W) : ∃ e, Env W e := by
  rw [MakeChecks.laidMetH_plain _ _ _ (by kernel_rfl), wlaid_eq] at h
  obtain ⟨e, hS⟩ := laid_sents h Tryd.underlying49 row_err Tryd.underlying90 Tryd.underlying114 rfl rfl Tryd.underlying9 (by kernel_rfl) (by kernel_rfl)
    (fun x hx => by
      simp only [wsents, List.mem_cons, List.not_mem_nil, or_false] at hx
      rcases hx with rfl | rfl | rfl | rfl | rfl <;> exact ⟨by kernel_rfl, by kernel_rfl⟩) (by decide)
  have hm : ∀ g ∈ [0, 1, 2, 3, 4], g ∈ wsents.map (·.2.1) := by decide
  exact ⟨e, fun g hg => hS.cell g (hm g hg), fun g hg => hS.row g (hm g hg), fun g hg g' hg' => hS.ne g (hm g hg) g' (hm g' hg')⟩

section
variable {H : Type} {enc : TypeId × Value → H} {W : World} {base : Nat} {spare : Nat → Bool} {held : Bool}
theorem tint_cells : Tryd.prog.cellsOf 3 = 1 := by kernel_rfl
theorem tstring_cells : Tryd.prog.cellsOf 9 = 1 := by kernel_rfl
theorem tFrame_cells : Tryd.prog.cellsOf 23 = 3 := by kernel_rfl
set_option maxRecDepth 100000 in
/-- An argument that is a frame. -/
theorem open_frame {v : Value} {d : DataW H} {p : List MemPlace} (hv : Value.okWide Tryd.prog W .any 0 23 v) (h : DataW.Trod enc Tryd.prog W 0 (fun _ => true) true 23 v d p) :
    ∃ f : Fr, v = f.v ∧ f.data.size ≤ maxLen := by
  obtain ⟨c0, c1, c2, y0, y1, y2, m, rfl, rfl, rfl, h0, h1, h2⟩ := Joins.open_agg3 Tryd.underlying23 (by kernel_rfl) tFrame_cells hv h
  obtain ⟨k, e0, _, _⟩ := DataW.trod_int Tryd.underlying3 h0
  obtain ⟨st, e1, _, _⟩ := DataW.trod_int Tryd.underlying3 h1
  obtain ⟨s, e2, _, hs⟩ := DataW.trod_string Tryd.underlying9 h2
  obtain rfl : c0 = .int .i64 k := by simpa using e0
  obtain rfl : c1 = .int .i64 st := by simpa using e1
  obtain rfl : c2 = .string s := by simpa using e2
  exact ⟨⟨k, st, s⟩, rfl, hs⟩
end
end Go.Proofs.YtfedhhndkeakhaaDoor
