/- A law's argument that is a slice of frames, opened; its cut. -/
import Derived.Test.YtfedhhndkeakhaaDoorWireLaw
import Derived.Test.YtfedhhndkeakhaaDoorWireH
namespace Go.Proofs.YtfedhhndkeakhaaDoor
open Go.RowKit Go.WideShapes Go.ChangeShapes Go.Deep

/-- The argument: a slice of frames, nil or empty or not. -/
def FrsArg (w : World) (a : Option Addr) (xs : List Fr) : Prop := (∀ x ∈ xs, x.data.size ≤ maxLen) ∧ xs.length ≤ 9223372036854775807 ∧ (0 < xs.length → ∃ g off, a = some ⟨g, off, none⟩ ∧ g < w.heap.size ∧ FrsAt w g off xs)
theorem FrsArg.keeps {w w' : World} {a : Option Addr} {xs : List Fr} (h : FrsArg w a xs) (hk : Keeps [] w w') : FrsArg w' a xs :=
  ⟨h.1, h.2.1, fun h0 => by
    obtain ⟨g, off, ha, hg, hat⟩ := h.2.2 h0
    exact ⟨g, off, ha, Nat.lt_of_lt_of_le hg hk.size, fun i hi => by
      obtain ⟨h0, h1, h2⟩ := hat i hi
      exact ⟨(hk.cell (p := ⟨g, off + i * 3, none⟩) hg (by simp)).trans h0, (hk.cell (p := ⟨g, off + i * 3 + 1, none⟩) hg (by simp)).trans h1, (hk.cell (p := ⟨g, off + i * 3 + 2, none⟩) hg (by simp)).trans h2⟩⟩⟩
theorem cutFrs_len (xs : List Fr) : (cutFrs xs).length ≤ 10 := by simp [cutFrs]; omega
theorem cutFrs_size (xs : List Fr) : ∀ y ∈ cutFrs xs, y.data.size ≤ 513 := fun y hy => by
  obtain ⟨x, _, rfl⟩ := List.mem_map.1 hy
  show (x.data.extract 0 (min x.data.size 513)).size ≤ 513
  rw [extract_size]; omega

/-- Cut, whatever slice comes in: the frames that it hands back lie in memory. -/
theorem cutfrs_in (w : World) (a : Option Addr) (c : Nat) (xs : List Fr) (h : FrsArg w a xs) :
    Calls Tryd.prog 11 #[.slice a xs.length c] w fun e w' => ∃ a' c', e = .returned (.slice a' (cutFrs xs).length c') ∧ (cutFrs xs).length ≤ c' ∧ FrsIn w' a' (cutFrs xs) ∧ Keeps [] w w' := by
  rcases Nat.eq_zero_or_pos xs.length with h0 | h0
  · obtain rfl := List.eq_nil_of_length_eq_zero h0
    refine (cutfrs_nil w c a).mono ?_
    rintro e w' ⟨rfl, rfl⟩
    exact ⟨none, 0, rfl, Nat.le_refl _, fun h1 => absurd rfl h1, Keeps.refl _ _⟩
  · obtain ⟨g, off, rfl, hg, hat⟩ := h.2.2 h0
    refine (cutfrs_any w g off c xs hat hg h.2.1 h.1).mono ?_
    rintro e w' ⟨v, rfl, hrow, hb⟩
    obtain ⟨a', c', rfl, hl, hin⟩ := frs_of_row hrow
    exact ⟨a', c', rfl, hl, hin, Keeps.of_below hb []⟩

section
variable {H : Type} {enc : TypeId × Value → H} {W : World} {base : Nat} {spare : Nat → Bool} {held : Bool}
instance : Inhabited Fr := ⟨fr0⟩

set_option maxRecDepth 100000 in
/-- One element: three cells. -/
theorem fr_of_trod {fuel : Nat} {a : Addr} {cs : List Value} {x : DataW H × List MemPlace} (hc : W.cells? base a 3 = some cs) (h : DataW.trod enc Tryd.prog W base spare held fuel 23 cs = some x) :
    ∃ o : Fr, W.cell? (a.add 0) = some (.int .i64 o.kind) ∧ W.cell? (a.add 1) = some (.int .i64 o.stream) ∧ W.cell? (a.add 2) = some (.string o.data) ∧ o.data.size ≤ maxLen := by
  obtain ⟨_, hcl, hat⟩ := World.cells?_some hc
  obtain ⟨ys, n, _, _, _, hyl, hf⟩ := DataW.trod_struct Tryd.underlying23 h
  match cs, hcl with
  | [c0, c1, c2], _ =>
    match ys, hyl with
    | [y0, y1, y2], _ =>
      have h0 : DataW.trod enc Tryd.prog W base spare held n 3 (([c0, c1, c2].drop 0).take (Tryd.prog.cellsOf 3)) = some y0 := hf 0 _ rfl
      have h1 : DataW.trod enc Tryd.prog W base spare held n 3 (([c0, c1, c2].drop 1).take (Tryd.prog.cellsOf 3)) = some y1 := hf 1 _ rfl
      have h2 : DataW.trod enc Tryd.prog W base spare held n 9 (([c0, c1, c2].drop 2).take (Tryd.prog.cellsOf 9)) = some y2 := hf 2 _ rfl
      rw [tint_cells] at h0 h1
      rw [tstring_cells] at h2
      obtain ⟨k, e0, _, _⟩ := DataW.trod_int Tryd.underlying3 h0
      obtain ⟨m, e1, _, _⟩ := DataW.trod_int Tryd.underlying3 h1
      obtain ⟨s, e2, _, hs⟩ := DataW.trod_string Tryd.underlying9 h2
      obtain rfl : c0 = .int .i64 k := by simpa using e0
      obtain rfl : c1 = .int .i64 m := by simpa using e1
      obtain rfl : c2 = .string s := by simpa using e2
      exact ⟨⟨k, m, s⟩, hat 0 (by omega), hat 1 (by omega), hat 2 (by omega), hs⟩

set_option maxRecDepth 100000 in
/-- The argument's slice is one of frames. -/
theorem open_frames {v : Value} {d : DataW H} {p : List MemPlace} (hv : Value.okWide Tryd.prog W .any 0 25 v) (h : DataW.Trod enc Tryd.prog W 0 (fun _ => true) true 25 v d p) :
    ∃ (a : Option Addr) (xs : List Fr) (c : Nat), v = .slice a xs.length c ∧ FrsArg W a xs := by
  obtain ⟨a0, len, cap, rfl⟩ := okWide_slice Tryd.underlying25 hv
  obtain ⟨fuel, hf⟩ := h
  rcases open_slice Tryd.underlying25 hf with ⟨hcs, _⟩ | ⟨a, len', cap', m, n, D, Pl, hcs, _, hl, hm, hmm, _, hx⟩
  · have hcs' : Value.slice a0 len cap = .slice none 0 0 := by simpa [Value.cells] using hcs
    injection hcs' with e1 e2 e3
    subst e1 e2 e3
    exact ⟨none, [], 0, rfl, by simp, by simp, fun h0 => by simp at h0⟩
  · have hcs' : Value.slice a0 len cap = .slice (some a) len' cap' := by simpa [Value.cells] using hcs
    injection hcs' with e1 e2 e3
    subst e1 e2 e3
    have hlm : len ≤ m := by rw [hmm]; simp only [if_true]; exact hl
    have hel : ∀ i, i < len → ∃ o : Fr, W.cell? ((a.add (i * 3)).add 0) = some (.int .i64 o.kind) ∧ W.cell? ((a.add (i * 3)).add 1) = some (.int .i64 o.stream) ∧ W.cell? ((a.add (i * 3)).add 2) = some (.string o.data) ∧ o.data.size ≤ maxLen := fun i hi => by
      obtain ⟨cs', h1, h2⟩ := hx i (by omega)
      rw [tFrame_cells] at h1
      exact fr_of_trod h1 h2
    obtain ⟨X, hX⟩ := choose_lt hel
    refine ⟨some a, (List.range len).map X, cap, by simp, ?_, by unfold maxLen at hm; simp; omega, fun h0 => ?_⟩
    · intro x hx'
      obtain ⟨i, hi, rfl⟩ := List.mem_map.1 hx'
      exact (hX i (List.mem_range.1 hi)).2.2.2
    · have h0' : 0 < len := by simpa using h0
      obtain ⟨b, off, spot⟩ := a
      have hsp : spot = none := by
        have := (hX 0 h0').1
        simp only [Nat.zero_mul, Addr.add, if_true] at this
        unfold World.cell? at this
        split at this
        · split at this
          · cases this
          · rename_i hn; simpa using hn
        · cases this
      subst hsp
      have hadd : ∀ i j, ((⟨b, off, none⟩ : Addr).add (i * 3)).add j = ⟨b, off + i * 3 + j, none⟩ := fun i j => by
        unfold Addr.add
        split <;> split <;> simp_all
      refine ⟨b, off, rfl, ?_, fun i hi => ?_⟩
      · have := (hX 0 h0').1
        rw [hadd] at this
        exact World.block_lt_of_cell? W _ this
      · have hi' : i < len := by simpa using hi
        have := hX i hi'
        rw [hadd, hadd, hadd] at this
        simp only [List.getElem_map, List.getElem_range]
        exact ⟨this.1, this.2.1, this.2.2.1⟩
end
end Go.Proofs.YtfedhhndkeakhaaDoor
