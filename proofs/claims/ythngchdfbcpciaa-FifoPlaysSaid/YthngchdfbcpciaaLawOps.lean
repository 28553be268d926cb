/- A law's argument that is a slice of calls, opened. -/
import Derived.Test.YthngchdfbcpciaaFifoL
import Derived.Deep.Slices
import Derived.Deep.Fields
namespace Go.Proofs.Ythngchdfbcpciaa
open Go.RowKit Go.WideShapes Go.ChangeShapes Go.Deep

section
variable {H : Type} {enc : TypeId × Value → H} {W : World} {base : Nat} {spare : Nat → Bool} {held : Bool}

instance : Inhabited Op1 := ⟨⟨0, 0, ByteArray.empty⟩⟩
theorem tint_cells : Try.prog.cellsOf 3 = 1 := by kernel_rfl
theorem tstring_cells : Try.prog.cellsOf 9 = 1 := by kernel_rfl
theorem tOp_cells : Try.prog.cellsOf 38 = 3 := by kernel_rfl

/-- One element: three cells. -/
theorem op_of_trod {fuel : Nat} {a : Addr} {cs : List Value} {x : DataW H × List MemPlace} (hc : W.cells? base a 3 = some cs) (h : DataW.trod enc Try.prog W base spare held fuel 38 cs = some x) :
    ∃ o : Op1, W.cell? (a.add 0) = some (.int .i64 o.kind) ∧ W.cell? (a.add 1) = some (.int .i64 o.n) ∧ W.cell? (a.add 2) = some (.string o.s) ∧ o.s.size ≤ maxLen := by
  obtain ⟨_, hcl, hat⟩ := World.cells?_some hc
  obtain ⟨ys, n, _, _, _, hyl, hf⟩ := DataW.trod_struct Try.underlying38 h
  match cs, hcl with
  | [c0, c1, c2], _ =>
    match ys, hyl with
    | [y0, y1, y2], _ =>
      have h0 : DataW.trod enc Try.prog W base spare held n 3 (([c0, c1, c2].drop 0).take (Try.prog.cellsOf 3)) = some y0 := hf 0 _ rfl
      have h1 : DataW.trod enc Try.prog W base spare held n 3 (([c0, c1, c2].drop 1).take (Try.prog.cellsOf 3)) = some y1 := hf 1 _ rfl
      have h2 : DataW.trod enc Try.prog W base spare held n 9 (([c0, c1, c2].drop 2).take (Try.prog.cellsOf 9)) = some y2 := hf 2 _ rfl
      rw [tint_cells] at h0 h1
      rw [tstring_cells] at h2
      obtain ⟨k, e0, _, _⟩ := DataW.trod_int Try.underlying3 h0
      obtain ⟨m, e1, _, _⟩ := DataW.trod_int Try.underlying3 h1
      obtain ⟨s, e2, _, hs⟩ := DataW.trod_string Try.underlying9 h2
      obtain rfl : c0 = .int .i64 k := by simpa using e0
      obtain rfl : c1 = .int .i64 m := by simpa using e1
      obtain rfl : c2 = .string s := by simpa using e2
      exact ⟨⟨k, m, s⟩, hat 0 (by omega), hat 1 (by omega), hat 2 (by omega), hs⟩

/-- The argument's slice is one of calls. -/
theorem open_ops {v : Value} {d : DataW H} {p : List MemPlace} (hv : Value.okWide Try.prog W .any 0 22 v) (h : DataW.Trod enc Try.prog W 0 (fun _ => true) true 22 v d p) :
    ∃ (a : Option Addr) (xs : List Op1) (c : Nat), v = .slice a xs.length c ∧ OpsArg W a xs := by
  obtain ⟨a0, len, cap, rfl⟩ := okWide_slice Try.underlying22 hv
  obtain ⟨fuel, hf⟩ := h
  rcases open_slice Try.underlying22 hf with ⟨hcs, _⟩ | ⟨a, len', cap', m, n, D, Pl, hcs, _, hl, hm, hmm, _, hx⟩
  · have hcs' : Value.slice a0 len cap = .slice none 0 0 := by simpa [Value.cells] using hcs
    injection hcs' with e1 e2 e3
    subst e1 e2 e3
    exact ⟨none, [], 0, rfl, by simp, by simp, fun h0 => by simp at h0⟩
  · have hcs' : Value.slice a0 len cap = .slice (some a) len' cap' := by simpa [Value.cells] using hcs
    injection hcs' with e1 e2 e3
    subst e1 e2 e3
    have hlm : len ≤ m := by rw [hmm]; simp only [if_true]; exact hl
    have hel : ∀ i, i < len → ∃ o : Op1, W.cell? ((a.add (i * 3)).add 0) = some (.int .i64 o.kind) ∧ W.cell? ((a.add (i * 3)).add 1) = some (.int .i64 o.n) ∧ W.cell? ((a.add (i * 3)).add 2) = some (.string o.s) ∧ o.s.size ≤ maxLen := fun i hi => by
      obtain ⟨cs', h1, h2⟩ := hx i (by omega)
      rw [tOp_cells] at h1
      exact op_of_trod h1 h2
    obtain ⟨X, hX⟩ := choose_lt hel
    refine ⟨some a, (List.range len).map X, cap, by simp, ?_, by unfold maxLen at hm; simp; omega, fun h0 => ?_⟩
    · intro x hx'
      obtain ⟨i, hi, rfl⟩ := List.mem_map.1 hx'
      exact (hX i (List.mem_range.1 hi)).2.2.2
    · have h0' : 0 < len := by simpa using h0
      obtain ⟨b, off, spot⟩ := a
      have hsp : spot = none := by
        have := (hX 0 h0').1
        simp only [Nat.zero_mul, Addr.add, if_true] at this
        unfold World.cell? at this
        split at this
        · split at this
          · cases this
          · rename_i hn; simpa using hn
        · cases this
      subst hsp
      have hadd : ∀ i j, ((⟨b, off, none⟩ : Addr).add (i * 3)).add j = ⟨b, off + i * 3 + j, none⟩ := fun i j => by
        unfold Addr.add
        split <;> split <;> simp_all
      refine ⟨b, off, rfl, ?_, fun i hi => ?_⟩
      · have := (hX 0 h0').1
        rw [hadd] at this
        exact World.block_lt_of_cell? W _ this
      · have hi' : i < len := by simpa using hi
        have := hX i hi'
        rw [hadd, hadd, hadd] at this
        simp only [List.getElem_map, List.getElem_range]
        exact ⟨this.1, this.2.1, this.2.2.1⟩
end
end Go.Proofs.Ythngchdfbcpciaa
