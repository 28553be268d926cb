/- From a statement's walk to its row and to its card; a law's arguments, opened. -/
import Derived.Test.YtbcppmcjbcnlbaaDoorSnapU
import Derived.Test.YtbcppmcjbcnlbaaDoorLaw
import Derived.Test.YtbcppmcjbcnlbaaDoorTie
import Derived.Test.YtbcppmcjbcnlbaaDoorCards
import Derived.LaidMore
import Derived.Stop.Joined
import Derived.SevenTiedAt
import Derived.Deep.Slices
import Derived.Deep.Fields
import Derived.Lib.SmallJoins
namespace Go.Proofs.YtbcppmcjbcnlbaaDoor
open Go.RowKit Go.Shelf Go.WideShapes Go.ChangeShapes Go.ChangeAt Go.Deep

theorem own : ownKnob Tryd.prog.godebug = none := by kernel_rfl
noncomputable def wlaid : List (String × DataW Unit) := Rows.snapsWalkRow.laid
theorem door_met (os : Os) (args : Array Value) : laidMetH Tryd.prog wlaid ((World.doorLaid Tryd.prog 400 os).forCall (fun _ _ => 0) ⟨#[], args, []⟩).memory :=
  laidMetH_of_parts3 (fuel := 8) (laidMet_of_run' 8 (by kernel_rfl) (by kernel_rfl)) (by kernel_rfl) (by kernel_rfl)
theorem star : "*" ++ "errors.errorString" = "*errors.errorString" := by decide
theorem row_err (u : TypeId) (h : Tryd.prog.typeName? 3 u = some "*errors.errorString") : u = 92 :=
  typeName_ptr_named (nm := "errors.errorString") (by rw [star]; kernel_rfl) (by kernel_rfl) (by decide) u (by rw [star]; exact h)
def wsents : List (String × Nat × List UInt8) := [("wicketgate/snaps.errArg", 1, [110, 111, 32, 110, 117, 109, 98, 101, 114]), ("wicketgate/snaps.errPool", 0, [110, 111, 32, 112, 111, 111, 108]), ("wicketgate/snaps.errCursor", 2, [110, 111, 32, 99, 117, 114, 115, 111, 114])]
theorem wlaid_eq : wlaid = wsents.map (sentD "*errors.errorString") := rfl
theorem env_of_laid {W : World} (h : laidMetH Tryd.prog wlaid W) : ∃ e, Env W e := by
  rw [MakeChecks.laidMetH_plain _ _ _ (by kernel_rfl), wlaid_eq] at h
  obtain ⟨e, hS⟩ := laid_sents h Tryd.underlying48 row_err Tryd.underlying92 Tryd.underlying117 rfl rfl Tryd.underlying9 (by kernel_rfl) (by kernel_rfl)
    (fun x hx => by
      simp only [wsents, List.mem_cons, List.not_mem_nil, or_false] at hx
      rcases hx with rfl | rfl | rfl <;> exact ⟨by kernel_rfl, by kernel_rfl⟩) (by decide)
  have hm : ∀ g ∈ [0, 1, 2], g ∈ wsents.map (·.2.1) := by decide
  exact ⟨e, fun g hg => hS.cell g (hm g hg), fun g hg => hS.row g (hm g hg), fun g hg g' hg' => hS.ne g (hm g hg) g' (hm g' hg')⟩

section
variable {H : Type} {enc : TypeId × Value → H} {W : World} {base : Nat} {spare : Nat → Bool} {held : Bool}
theorem tint_cells : Tryd.prog.cellsOf 3 = 1 := by kernel_rfl
theorem tstring_cells : Tryd.prog.cellsOf 9 = 1 := by kernel_rfl
theorem tstrs_cells : Tryd.prog.cellsOf 25 = 1 := by kernel_rfl
theorem tSnaps_cells : Tryd.prog.cellsOf 22 = 1 := by kernel_rfl
theorem tSnap_cells : Tryd.prog.cellsOf 39 = 3 := by kernel_rfl
theorem tPool_cells : Tryd.prog.cellsOf 24 = 2 := by kernel_rfl

set_option maxRecDepth 100000 in
/-- A row of texts, read from memory. -/
theorem strs_of_trod {fuel : Nat} {cs : List Value} {x : DataW H × List MemPlace} (h : DataW.trod enc Tryd.prog W base spare held fuel 25 cs = some x) :
    ∃ (a : Option Addr) (xs : List ByteArray) (c : Nat), cs = [.slice a xs.length c] ∧ StrsArg W a xs := by
  rcases open_slice Tryd.underlying25 h with ⟨hcs, _⟩ | ⟨a, len, cap, m, n, D, Pl, hcs, _, hl, hm, hmm, _, hx⟩
  · exact ⟨none, [], 0, hcs, by simp, by simp, fun h0 => by simp at h0⟩
  · have hlm : len ≤ m := by rw [hmm]; split <;> omega
    have hel : ∀ i, i < len → ∃ o : ByteArray, W.cell? ((a.add (i * 1)).add 0) = some (.string o) ∧ o.size ≤ maxLen := fun i hi => by
      obtain ⟨cs', h1, h2⟩ := hx i (by omega)
      rw [tstring_cells] at h1
      obtain ⟨_, hcl, hat⟩ := World.cells?_some h1
      match cs', hcl with
      | [c0], _ =>
        obtain ⟨s, e0, _, hs⟩ := DataW.trod_string Tryd.underlying9 h2
        obtain rfl : c0 = .string s := by simpa using e0
        exact ⟨s, hat 0 (by omega), hs⟩
    obtain ⟨X, hX⟩ := choose_lt hel
    refine ⟨some a, (List.range len).map X, cap, by rw [hcs]; simp, ?_, by unfold maxLen at hm; simp; omega, fun h0 => ?_⟩
    · intro x hx'
      obtain ⟨i, hi, rfl⟩ := List.mem_map.1 hx'
      exact (hX i (List.mem_range.1 hi)).2
    · have h0' : 0 < len := by simpa using h0
      obtain ⟨b, off, spot⟩ := a
      have hsp : spot = none := by
        have := (hX 0 h0').1
        simp only [Nat.zero_mul, Addr.add, if_true] at this
        unfold World.cell? at this
        split at this
        · split at this
          · cases this
          · rename_i hn; simpa using hn
        · cases this
      subst hsp
      have hadd : ∀ i, ((⟨b, off, none⟩ : Addr).add (i * 1)).add 0 = ⟨b, off + i, none⟩ := fun i => by
        unfold Addr.add
        split <;> simp_all
      refine ⟨b, off, rfl, ?_, fun i hi => ?_⟩
      · have := (hX 0 h0').1
        rw [hadd] at this
        exact World.block_lt_of_cell? W _ this
      · have hi' : i < len := by simpa using hi
        have := (hX i hi').1
        rw [hadd] at this
        simp only [List.getElem_map, List.getElem_range]
        exact this
set_option maxRecDepth 100000 in
/-- One listing: three cells. -/
theorem snap_of_trod {fuel : Nat} {a : Addr} {cs : List Value} {x : DataW H × List MemPlace} (hc : W.cells? base a 3 = some cs) (h : DataW.trod enc Tryd.prog W base spare held fuel 39 cs = some x) :
    ∃ o : SV × Sn, W.cell? (a.add 0) = some (.int .i64 o.1.cur) ∧ W.cell? (a.add 1) = some (.slice o.1.ia o.1.il o.1.ic) ∧ W.cell? (a.add 2) = some (.int .i64 o.1.used) ∧ MtA1 W o.1 o.2 := by
  obtain ⟨_, hcl, hat⟩ := World.cells?_some hc
  obtain ⟨ys, n, _, _, _, hyl, hf⟩ := DataW.trod_struct Tryd.underlying39 h
  match cs, hcl with
  | [c0, c1, c2], _ =>
    match ys, hyl with
    | [y0, y1, y2], _ =>
      have h0 : DataW.trod enc Tryd.prog W base spare held n 3 (([c0, c1, c2].drop 0).take (Tryd.prog.cellsOf 3)) = some y0 := hf 0 _ rfl
      have h1 : DataW.trod enc Tryd.prog W base spare held n 25 (([c0, c1, c2].drop 1).take (Tryd.prog.cellsOf 25)) = some y1 := hf 1 _ rfl
      have h2 : DataW.trod enc Tryd.prog W base spare held n 3 (([c0, c1, c2].drop 2).take (Tryd.prog.cellsOf 3)) = some y2 := hf 2 _ rfl
      rw [tint_cells] at h0 h2
      rw [tstrs_cells] at h1
      obtain ⟨k, e0, _, _⟩ := DataW.trod_int Tryd.underlying3 h0
      obtain ⟨u, e2, _, _⟩ := DataW.trod_int Tryd.underlying3 h2
      obtain ⟨ia, xs, ic, e1, hs⟩ := strs_of_trod h1
      obtain rfl : c0 = .int .i64 k := by simpa using e0
      obtain rfl : c1 = .slice ia xs.length ic := by simpa using e1
      obtain rfl : c2 = .int .i64 u := by simpa using e2
      exact ⟨(⟨k, ia, xs.length, ic, u⟩, ⟨k, xs, u⟩), hat 0 (by omega), hat 1 (by omega), hat 2 (by omega), rfl, rfl, rfl, hs⟩
instance : Inhabited (SV × Sn) := ⟨(⟨0, none, 0, 0, 0⟩, ⟨0, [], 0⟩)⟩
set_option maxRecDepth 100000 in
/-- A row of listings, read from memory. -/
theorem snaps_of_trod {fuel : Nat} {cs : List Value} {x : DataW H × List MemPlace} (h : DataW.trod enc Tryd.prog W base spare held fuel 22 cs = some x) :
    ∃ (a : Option Addr) (V : List SV) (c : Nat) (L : List Sn), cs = [.slice a V.length c] ∧ PoolArg W a V L := by
  rcases open_slice Tryd.underlying22 h with ⟨hcs, _⟩ | ⟨a, len, cap, m, n, D, Pl, hcs, _, hl, hm, hmm, _, hx⟩
  · exact ⟨none, [], 0, [], hcs, by simp, fun h0 => absurd rfl h0, rfl, fun i h0 => by simp at h0⟩
  · have hlm : len ≤ m := by rw [hmm]; split <;> omega
    have hel : ∀ i, i < len → ∃ o : SV × Sn, W.cell? ((a.add (i * 3)).add 0) = some (.int .i64 o.1.cur) ∧ W.cell? ((a.add (i * 3)).add 1) = some (.slice o.1.ia o.1.il o.1.ic) ∧ W.cell? ((a.add (i * 3)).add 2) = some (.int .i64 o.1.used) ∧ MtA1 W o.1 o.2 := fun i hi => by
      obtain ⟨cs', h1, h2⟩ := hx i (by omega)
      rw [tSnap_cells] at h1
      exact snap_of_trod h1 h2
    obtain ⟨X, hX⟩ := choose_lt hel
    refine ⟨some a, (List.range len).map fun i => (X i).1, cap, (List.range len).map fun i => (X i).2, by rw [hcs]; simp, by unfold maxLen at hm; simp; omega, fun h0 => ?_, by simp, fun i hi _ => ?_⟩
    · have h0' : 0 < len := by
        rcases Nat.eq_zero_or_pos len with e | e
        · subst e; simp at h0
        · exact e
      obtain ⟨b, off, spot⟩ := a
      have hsp : spot = none := by
        have := (hX 0 h0').1
        simp only [Nat.zero_mul, Addr.add, if_true] at this
        unfold World.cell? at this
        split at this
        · split at this
          · cases this
          · rename_i hn; simpa using hn
        · cases this
      subst hsp
      have hadd : ∀ i j, ((⟨b, off, none⟩ : Addr).add (i * 3)).add j = ⟨b, off + i * 3 + j, none⟩ := fun i j => by
        unfold Addr.add
        split <;> split <;> simp_all
      refine ⟨b, off, rfl, ?_, fun i hi => ?_⟩
      · have := (hX 0 h0').1
        rw [hadd] at this
        exact World.block_lt_of_cell? W _ this
      · have hi' : i < len := by simpa using hi
        have := hX i hi'
        rw [hadd, hadd, hadd] at this
        simp only [List.getElem_map, List.getElem_range]
        exact ⟨this.1, this.2.1, this.2.2.1⟩
    · have hi' : i < len := by simpa using hi
      simp only [List.getElem_map, List.getElem_range]
      exact (hX i hi').2.2.2
set_option maxRecDepth 100000 in
/-- An argument that is a pool. -/
theorem open_pool {v : Value} {d : DataW H} {p : List MemPlace} (hv : Value.okWide Tryd.prog W .any 0 24 v) (h : DataW.Trod enc Tryd.prog W 0 (fun _ => true) true 24 v d p) :
    ∃ (a : Option Addr) (c : Nat) (V : List SV) (L : List Sn) (next : Int), v = .agg #[.slice a V.length c, .int .i64 next] ∧ PoolArg W a V L := by
  obtain ⟨c0, c1, y0, y1, m, rfl, rfl, rfl, h0, h1⟩ := Joins.open_agg2 Tryd.underlying24 (by kernel_rfl) tPool_cells hv h
  obtain ⟨a, V, c, L, e0, hP⟩ := snaps_of_trod h0
  obtain ⟨k, e1, _, _⟩ := DataW.trod_int Tryd.underlying3 h1
  obtain rfl : c0 = .slice a V.length c := by simpa using e0
  obtain rfl : c1 = .int .i64 k := by simpa using e1
  exact ⟨a, c, V, L, k, rfl, hP⟩
set_option maxRecDepth 100000 in
/-- An argument that is a row of texts. -/
theorem open_strs {v : Value} {d : DataW H} {p : List MemPlace} (hv : Value.okWide Tryd.prog W .any 0 25 v) (h : DataW.Trod enc Tryd.prog W 0 (fun _ => true) true 25 v d p) :
    ∃ (a : Option Addr) (xs : List ByteArray) (c : Nat), v = .slice a xs.length c ∧ StrsArg W a xs := by
  obtain ⟨a0, len, cap, rfl⟩ := okWide_slice Tryd.underlying25 hv
  obtain ⟨fuel, hf⟩ := h
  obtain ⟨a, xs, c, e, hs⟩ := strs_of_trod hf
  exact ⟨a, xs, c, by simpa [Value.cells] using e, hs⟩
end
end Go.Proofs.YtbcppmcjbcnlbaaDoor
