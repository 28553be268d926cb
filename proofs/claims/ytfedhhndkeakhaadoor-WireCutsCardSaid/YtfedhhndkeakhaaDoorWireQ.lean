/- Frames, compared. -/
import Derived.Test.YtfedhhndkeakhaaDoorWireA
import Derived.Laws.StructEq
namespace Go.Proofs.YtfedhhndkeakhaaDoor
open Go.RowKit

/-- Are two frames the same? -/
def frB (f g : Fr) : Bool := f.kind == g.kind && f.stream == g.stream && f.data.toList == g.data.toList
theorem fr_stood : Tryd.prog.stoodInHeld 23 = false := by kernel_rfl
theorem fr_guardType : Tryd.prog.eqGuardType Tryd.prog.depth 23 = false := by kernel_rfl
theorem fr_under : Tryd.prog.underlying 23 = some (.struct (Tryd.prog.fieldsOf 23)) := by kernel_rfl
theorem fr_eqIn (f g : Fr) (w : World) : (Op.equalIn 10000 23 f.v g.v).run Tryd.prog w = .ok (frB f g) w := by
  unfold Fr.v
  rw [show (10000 : Nat) = 9999 + 1 from rfl, run_equalIn_agg w 9999 23 _ _ fr_under fr_stood]
  simp [Program.fieldsOf, Tryd.underlying23, Op.eqFields, go_sem, Tryd.underlying3, Tryd.underlying9]
  unfold frB
  by_cases h1 : f.kind = g.kind <;> by_cases h2 : f.stream = g.stream <;> by_cases h3 : f.data.toList = g.data.toList <;> simp [h1, h2, h3]
theorem frB_iff (f g : Fr) : frB f g = true ↔ f = g := by
  obtain ⟨k, st, d⟩ := f
  obtain ⟨k', st', d'⟩ := g
  unfold frB
  simp only [Bool.and_eq_true, beq_iff_eq, Fr.mk.injEq, ByteArray.toList_eq]
  constructor
  · rintro ⟨⟨h1, h2⟩, h3⟩
    refine ⟨h1, h2, ?_⟩
    obtain ⟨⟨l⟩⟩ := d
    obtain ⟨⟨l'⟩⟩ := d'
    have h3 : l = l' := h3
    rw [h3]
  · rintro ⟨rfl, rfl, rfl⟩
    exact ⟨⟨rfl, rfl⟩, rfl⟩
theorem fr_neq (f g : Fr) (b : Bool) (hb : (!frB f g) = b) (w : World) : (binOp .neq 23 (.agg #[.int .i64 f.kind, .int .i64 f.stream, .string f.data]) (.agg #[.int .i64 g.kind, .int .i64 g.stream, .string g.data])).run Tryd.prog w = .ok (.bool b) w := by
  rw [run_neq_struct, show (Op.equalIn 10000 23 (.agg #[.int .i64 f.kind, .int .i64 f.stream, .string f.data]) (.agg #[.int .i64 g.kind, .int .i64 g.stream, .string g.data])).run Tryd.prog w = .ok (frB f g) w from fr_eqIn f g w, ← hb]
  rfl
theorem fr_eql (f g : Fr) (b : Bool) (hb : frB f g = b) (w : World) : (binOp .eql 23 (.agg #[.int .i64 f.kind, .int .i64 f.stream, .string f.data]) (.agg #[.int .i64 g.kind, .int .i64 g.stream, .string g.data])).run Tryd.prog w = .ok (.bool b) w := by
  rw [run_eql_struct, show (Op.equalIn 10000 23 (.agg #[.int .i64 f.kind, .int .i64 f.stream, .string f.data]) (.agg #[.int .i64 g.kind, .int .i64 g.stream, .string g.data])).run Tryd.prog w = .ok (frB f g) w from fr_eqIn f g w, ← hb]
  rfl
theorem fr_guard (op : BinOp) (x y : Operand) (xs ys : Array Value) (w : World) : (eqGuard op 23 x y (.agg xs) (.agg ys)).run Tryd.prog w = .ok () w := run_eqGuard_agg w op 23 x y xs ys fr_guardType
end Go.Proofs.YtfedhhndkeakhaaDoor
