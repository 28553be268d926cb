/- A law's list of calls (10): in memory, and as an argument. -/
import Derived.Test.YtkkajcakgihckaaLaw
import Derived.Test.YtkkajcakgihckaaChecked
import Derived.Deep.Slices
import Derived.Deep.Fields
namespace Go.Proofs.Ytkkajcakgihckaa
open Go.RowKit Go.WideShapes Go.ChangeShapes Go.Deep

/-- A call. -/
structure Op1 where
  kind : Int
  a : Int
  b : Int
instance : Inhabited Op1 := ⟨⟨0, 0, 0⟩⟩
def Op1.val (x : Op1) : Value := .agg #[.int .i64 x.kind, .int .i64 x.a, .int .i64 x.b]
def Op1.wf (x : Op1) : Prop := (Lit.int .i64 x.a).wf = true ∧ (Lit.int .i64 x.b).wf = true

/-- The slice at a holds these calls. -/
def OpsArg (w : World) (a : Option Addr) (xs : List Op1) (c : Nat) : Prop :=
  (∀ x ∈ xs, x.wf) ∧ xs.length ≤ c ∧ (0 < xs.length → ∃ b off, a = some ⟨b, off, none⟩ ∧ b < w.heap.size ∧
    ∀ i (h : i < xs.length), w.cell? ⟨b, off + i * 3, none⟩ = some (.int .i64 xs[i].kind) ∧ w.cell? ⟨b, off + i * 3 + 1, none⟩ = some (.int .i64 xs[i].a) ∧ w.cell? ⟨b, off + i * 3 + 2, none⟩ = some (.int .i64 xs[i].b))

theorem OpsArg.keeps {w w' : World} {a : Option Addr} {xs : List Op1} {c : Nat} (h : OpsArg w a xs c) (hk : Keeps [] w w') : OpsArg w' a xs c := by
  refine ⟨h.1, h.2.1, fun h0 => ?_⟩
  obtain ⟨b, off, ha, hb, hc⟩ := h.2.2 h0
  refine ⟨b, off, ha, Nat.lt_of_lt_of_le hb hk.size, fun i hi => ?_⟩
  obtain ⟨h1, h2, h3⟩ := hc i hi
  exact ⟨(hk.cell (p := ⟨b, off + i * 3, none⟩) hb (by simp)).trans h1, (hk.cell (p := ⟨b, off + i * 3 + 1, none⟩) hb (by simp)).trans h2, (hk.cell (p := ⟨b, off + i * 3 + 2, none⟩) hb (by simp)).trans h3⟩
theorem OpsArg.take {w : World} {a : Option Addr} {xs : List Op1} {c : Nat} (h : OpsArg w a xs c) (n : Nat) : OpsArg w a (xs.take n) c := by
  refine ⟨fun x hx => h.1 x (List.mem_of_mem_take hx), by have := h.2.1; rw [List.length_take]; omega, fun h0 => ?_⟩
  rw [List.length_take] at h0
  obtain ⟨b, off, ha, hb, hc⟩ := h.2.2 (by omega)
  refine ⟨b, off, ha, hb, fun i hi => ?_⟩
  rw [List.length_take] at hi
  have := hc i (by omega)
  rw [List.getElem_take]
  exact this

section
variable {H : Type} {enc : TypeId × Value → H} {W : World} {base : Nat} {spare : Nat → Bool} {held : Bool}
theorem tint_cells : Try.prog.cellsOf 3 = 1 := by kernel_rfl
theorem tOp_cells : Try.prog.cellsOf 36 = 3 := by kernel_rfl

set_option maxRecDepth 100000 in
/-- One element: three cells. -/
theorem op_of_trod {fuel : Nat} {a : Addr} {cs : List Value} {x : DataW H × List MemPlace} (hc : W.cells? base a 3 = some cs) (h : DataW.trod enc Try.prog W base spare held fuel 36 cs = some x) :
    ∃ o : Op1, W.cell? (a.add 0) = some (.int .i64 o.kind) ∧ W.cell? (a.add 1) = some (.int .i64 o.a) ∧ W.cell? (a.add 2) = some (.int .i64 o.b) ∧ o.wf := by
  obtain ⟨_, hcl, hat⟩ := World.cells?_some hc
  obtain ⟨ys, n, _, _, _, hyl, hf⟩ := DataW.trod_struct Try.underlying36 h
  match cs, hcl with
  | [c0, c1, c2], _ =>
    match ys, hyl with
    | [y0, y1, y2], _ =>
      have h0 : DataW.trod enc Try.prog W base spare held n 3 (([c0, c1, c2].drop 0).take (Try.prog.cellsOf 3)) = some y0 := hf 0 _ rfl
      have h1 : DataW.trod enc Try.prog W base spare held n 3 (([c0, c1, c2].drop 1).take (Try.prog.cellsOf 3)) = some y1 := hf 1 _ rfl
      have h2 : DataW.trod enc Try.prog W base spare held n 3 (([c0, c1, c2].drop 2).take (Try.prog.cellsOf 3)) = some y2 := hf 2 _ rfl
      rw [tint_cells] at h0 h1 h2
      obtain ⟨k, e0, _, w0⟩ := DataW.trod_int Try.underlying3 h0
      obtain ⟨m, e1, _, w1⟩ := DataW.trod_int Try.underlying3 h1
      obtain ⟨s, e2, _, w2⟩ := DataW.trod_int Try.underlying3 h2
      obtain rfl : c0 = .int .i64 k := by simpa using e0
      obtain rfl : c1 = .int .i64 m := by simpa using e1
      obtain rfl : c2 = .int .i64 s := by simpa using e2
      exact ⟨⟨k, m, s⟩, hat 0 (by omega), hat 1 (by omega), hat 2 (by omega), w1, w2⟩

set_option maxRecDepth 100000 in
/-- The argument's slice is one of calls. -/
theorem open_ops {v : Value} {d : DataW H} {p : List MemPlace} (hv : Value.okWide Try.prog W .any 0 22 v) (h : DataW.Trod enc Try.prog W 0 (fun _ => true) true 22 v d p) :
    ∃ (a : Option Addr) (xs : List Op1) (c : Nat), v = .slice a xs.length c ∧ OpsArg W a xs c := by
  obtain ⟨a0, len, cap, rfl⟩ := okWide_slice Try.underlying22 hv
  obtain ⟨fuel, hf⟩ := h
  rcases open_slice Try.underlying22 hf with ⟨hcs, _⟩ | ⟨a, len', cap', m, n, D, Pl, hcs, _, hl, hm, hmm, _, hx⟩
  · have hcs' : Value.slice a0 len cap = .slice none 0 0 := by simpa [Value.cells] using hcs
    injection hcs' with e1 e2 e3
    subst e1 e2 e3
    exact ⟨none, [], 0, rfl, by simp, by simp, fun h0 => by simp at h0⟩
  · have hcs' : Value.slice a0 len cap = .slice (some a) len' cap' := by simpa [Value.cells] using hcs
    injection hcs' with e1 e2 e3
    subst e1 e2 e3
    have hlm : len ≤ m := by rw [hmm]; simp only [if_true]; exact hl
    have hlc : len ≤ cap := hl
    have hel : ∀ i, i < len → ∃ o : Op1, W.cell? ((a.add (i * 3)).add 0) = some (.int .i64 o.kind) ∧ W.cell? ((a.add (i * 3)).add 1) = some (.int .i64 o.a) ∧ W.cell? ((a.add (i * 3)).add 2) = some (.int .i64 o.b) ∧ o.wf := fun i hi => by
      obtain ⟨cs', h1, h2⟩ := hx i (by omega)
      rw [tOp_cells] at h1
      exact op_of_trod h1 h2
    obtain ⟨X, hX⟩ := choose_lt hel
    refine ⟨some a, (List.range len).map X, cap, by simp, ?_, by simpa using hlc, fun h0 => ?_⟩
    · intro x hx'
      obtain ⟨i, hi, rfl⟩ := List.mem_map.1 hx'
      exact (hX i (List.mem_range.1 hi)).2.2.2
    · have h0' : 0 < len := by simpa using h0
      obtain ⟨b, off, spot⟩ := a
      have hsp : spot = none := by
        have := (hX 0 h0').1
        simp only [Nat.zero_mul, Addr.add, if_true] at this
        unfold World.cell? at this
        split at this
        · split at this
          · cases this
          · rename_i hn; simpa using hn
        · cases this
      subst hsp
      have hadd : ∀ i j, ((⟨b, off, none⟩ : Addr).add (i * 3)).add j = ⟨b, off + i * 3 + j, none⟩ := fun i j => by
        unfold Addr.add
        split <;> split <;> simp_all
      refine ⟨b, off, rfl, ?_, fun i hi => ?_⟩
      · have := (hX 0 h0').1
        rw [hadd] at this
        exact World.block_lt_of_cell? W _ this
      · have hi' : i < len := by simpa using hi
        have := hX i hi'
        rw [hadd, hadd, hadd] at this
        simp only [List.getElem_map, List.getElem_range]
        exact ⟨this.1, this.2.1, this.2.2.1⟩
end

set_option maxRecDepth 100000 in
theorem few_any (a : Option Addr) (xs : List Op1) (c : Nat) (w : World) (hx : OpsArg w a xs c) :
    Calls Try.prog 10 #[.slice a xs.length c] w fun e w' => e = .returned (.slice a (xs.take 90).length c) ∧ w = w' := by
  have hc := hx.2.1
  obtain ⟨N, hN⟩ : ∃ N, xs.length = N := ⟨_, rfl⟩
  rw [List.length_take]
  rw [hN] at hc ⊢
  clear hx hN
  rcases Nat.lt_or_ge 90 N with h | h
  · have h1 : (90 : Int) < (N : Int) := by omega
    have h2 : (90 : Int) ≤ (c : Int) := by omega
    rw [Nat.min_eq_left (by omega)]
    go_enter Try.func10, Try.ntmps10
    go_wp2
    go_ret
    exact ⟨rfl, rfl⟩
  · have h1 : ¬ (90 : Int) < (N : Int) := by omega
    have h2 : (N : Int) ≤ (c : Int) := by omega
    rw [Nat.min_eq_right (by omega)]
    go_enter Try.func10, Try.ntmps10
    go_wp2
    go_ret
    exact ⟨rfl, rfl⟩
end Go.Proofs.Ytkkajcakgihckaa
