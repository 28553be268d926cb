/- A list of calls in memory of the statement's own; the calls of a law's argument. -/
import Derived.Test.YthngchdfbcpciaaFifoJ
import Derived.Test.YthngchdfbcpciaaLaw
namespace Go.Proofs.Ythngchdfbcpciaa
open Go.RowKit

theorem opCells_at (ys : List Op1) : ∀ i (h : i < ys.length), (ys.flatMap opCells)[i * 3]? = some (.int .i64 ys[i].kind) ∧ (ys.flatMap opCells)[i * 3 + 1]? = some (.int .i64 ys[i].n) ∧ (ys.flatMap opCells)[i * 3 + 2]? = some (.string ys[i].s) := by
  induction ys with
  | nil => intro i h; simp at h
  | cons y ys ih =>
    intro i h
    rw [List.flatMap_cons]
    match i with
    | 0 => simp [opCells]
    | i + 1 =>
      have h' : i < ys.length := by simpa using h
      obtain ⟨h0, h1, h2⟩ := ih i h'
      have hl : (opCells y).length = 3 := rfl
      refine ⟨?_, ?_, ?_⟩
      · rw [List.getElem?_append_right (by omega), hl, show (i + 1) * 3 - 3 = i * 3 by omega, h0]; rfl
      · rw [List.getElem?_append_right (by omega), hl, show (i + 1) * 3 + 1 - 3 = i * 3 + 1 by omega, h1]; rfl
      · rw [List.getElem?_append_right (by omega), hl, show (i + 1) * 3 + 2 - 3 = i * 3 + 2 by omega, h2]; rfl

/-- The slice at a holds these calls, in a block below B. -/
def OpsIn (w : World) (B : Nat) (a : Option Addr) (ys : List Op1) : Prop := 0 < ys.length → ∃ g, a = some ⟨g, 0, none⟩ ∧ g < B ∧ g < w.heap.size ∧ OpsAt w g 0 ys

theorem OpsAt.keeps {w w' : World} {S : List Nat} {g off : Nat} {ys : List Op1} (h : OpsAt w g off ys) (hk : Keeps S w w') (hg : g < w.heap.size) (hs : g ∉ S) : OpsAt w' g off ys := fun i hi => by
  obtain ⟨h0, h1, h2⟩ := h i hi
  exact ⟨(hk.cell (p := ⟨g, off + i * 3, none⟩) hg hs).trans h0, (hk.cell (p := ⟨g, off + i * 3 + 1, none⟩) hg hs).trans h1, (hk.cell (p := ⟨g, off + i * 3 + 2, none⟩) hg hs).trans h2⟩

theorem OpsIn.keeps {w w' : World} {S : List Nat} {B : Nat} {a : Option Addr} {ys : List Op1} (h : OpsIn w B a ys) (hk : Keeps S w w') (hs : ∀ k ∈ S, B ≤ k) : OpsIn w' B a ys := fun h0 => by
  obtain ⟨g, ha, hgB, hg, hat⟩ := h h0
  exact ⟨g, ha, hgB, by have := hk.size; omega, hat.keeps hk hg (fun hm => by have := hs g hm; omega)⟩

theorem ops_of_row {w : World} {B : Nat} {v : Value} {ys : List Op1} (h : w.ownsRow B 38 3 v ys.length (ys.flatMap opCells)) : ∃ a c, v = .slice a ys.length c ∧ OpsIn w w.heap.size a ys := by
  rcases h.2 with ⟨rfl, h0⟩ | ⟨g, c, cur, rfl, hb, hg, hn, hc, hs, ht⟩
  · exact ⟨none, 0, by rw [h0], fun h1 => by omega⟩
  · refine ⟨_, c, rfl, fun _ => ⟨g, rfl, Blk.lt hg, Blk.lt hg, fun i hi => ?_⟩⟩
    have hblk : Blk w g 38 cur := hg
    have key : ∀ j u, j < ys.length * 3 → (ys.flatMap opCells)[j]? = some u → cur[j]? = some u := fun j u hj hu => by
      rw [← ht, List.getElem?_take, if_pos hj] at hu
      simpa using hu
    obtain ⟨h0, h1, h2⟩ := opCells_at ys i hi
    rw [hblk.cell, hblk.cell, hblk.cell, Nat.zero_add]
    exact ⟨key _ _ (by omega) h0, key _ _ (by omega) h1, key _ _ (by omega) h2⟩

/-- A round's call. -/
theorem OpsIn.at_ {w : World} {B k : Nat} {a : Option Addr} {ys : List Op1} (h : OpsIn w B a ys) (hk : k < ys.length) : ∃ g x, a = some ⟨g, 0, none⟩ ∧ ys[k]? = some x ∧
    w.cell? ⟨g, k * 3, none⟩ = some (.int .i64 x.kind) ∧ w.cell? ⟨g, k * 3 + 1, none⟩ = some (.int .i64 x.n) ∧ w.cell? ⟨g, k * 3 + 2, none⟩ = some (.string x.s) := by
  obtain ⟨g, ha, _, _, hat⟩ := h (by omega)
  have := hat k hk
  rw [Nat.zero_add] at this
  exact ⟨g, ys[k], ha, List.getElem?_eq_getElem hk, this⟩

theorem cutOp_size (x : Op1) : (cutOp x).s.size ≤ 100 := by
  show (x.s.extract 0 (min x.s.size 100)).size ≤ 100
  simp; omega
theorem cutOps_size (xs : List Op1) : ∀ y ∈ cutOps xs, y.s.size ≤ 100 := fun y hy => by
  obtain ⟨x, _, rfl⟩ := List.mem_map.1 hy
  exact cutOp_size x
theorem cutOps_length (xs : List Op1) : (cutOps xs).length ≤ 40 := by simp [cutOps]; omega

/-- The argument: a slice of calls, nil or empty or not. -/
def OpsArg (w : World) (a : Option Addr) (xs : List Op1) : Prop := (∀ x ∈ xs, x.s.size ≤ maxLen) ∧ xs.length ≤ 9223372036854775807 ∧ (0 < xs.length → ∃ g off, a = some ⟨g, off, none⟩ ∧ g < w.heap.size ∧ OpsAt w g off xs)

theorem OpsArg.keeps {w w' : World} {S : List Nat} {a : Option Addr} {xs : List Op1} (h : OpsArg w a xs) (hk : Keeps S w w') (hs : ∀ k ∈ S, w.heap.size ≤ k) : OpsArg w' a xs :=
  ⟨h.1, h.2.1, fun h0 => by
    obtain ⟨g, off, ha, hg, hat⟩ := h.2.2 h0
    exact ⟨g, off, ha, by have := hk.size; omega, hat.keeps hk hg (fun hm => by have := hs g hm; omega)⟩⟩

/-- Cut, whatever slice comes in: the calls that it hands back lie in memory. -/
theorem cutops_in (w : World) (a : Option Addr) (c : Nat) (xs : List Op1) (h : OpsArg w a xs) :
    Calls Try.prog 9 #[.slice a xs.length c] w fun e w' => ∃ a' c', e = .returned (.slice a' (cutOps xs).length c') ∧ OpsIn w' w'.heap.size a' (cutOps xs) ∧ Keeps [] w w' := by
  rcases Nat.eq_zero_or_pos xs.length with h0 | h0
  · obtain rfl := List.eq_nil_of_length_eq_zero h0
    refine (cutops_nil w c a).mono ?_
    rintro e w' ⟨rfl, rfl⟩
    exact ⟨none, 0, rfl, fun h1 => by simp [cutOps] at h1, Keeps.refl _ _⟩
  · obtain ⟨g, off, rfl, hg, hat⟩ := h.2.2 h0
    refine (cutops_any w g off c xs hat hg h.2.1 h.1).mono ?_
    rintro e w' ⟨v, rfl, hrow, hb⟩
    obtain ⟨a', c', rfl, hin⟩ := ops_of_row hrow
    exact ⟨a', c', rfl, hin, Keeps.of_below hb []⟩
end Go.Proofs.Ythngchdfbcpciaa
