/- A law's argument that is a slice of numbers; a row of texts of the law's own, apart from the pool. -/
import Derived.Test.YtbcppmcjbcnlbaaDoorSnapX
import Derived.Test.YtbcppmcjbcnlbaaDoorSnapWD
import Derived.Deep.Slices
import Derived.Deep.Fields
namespace Go.Proofs.YtbcppmcjbcnlbaaDoor
open Go.RowKit Go.WideShapes Go.ChangeShapes Go.Deep
attribute [local go_sem ↓] Go.wp_at_zero Go.wp_at_succ
def IntsAt (w : World) (a o : Nat) (cs : List Int) : Prop := ∀ i (h : i < cs.length), w.cell? ⟨a, o + i, none⟩ = some (.int .i64 cs[i])
/-- The slice at a, of capacity c, holds these numbers. -/
structure IntsArg (w : World) (a : Option Addr) (c : Nat) (xs : List Int) : Prop where
  le : xs.length ≤ c
  small : xs.length ≤ maxLen
  at_ : xs ≠ [] → ∃ b off, a = some ⟨b, off, none⟩ ∧ b < w.heap.size ∧ IntsAt w b off xs

theorem IntsArg.keeps {w w' : World} {a : Option Addr} {c : Nat} {xs : List Int} (h : IntsArg w a c xs) (hk : Keeps [] w w') : IntsArg w' a c xs :=
  ⟨h.le, h.small, fun hn => by
    obtain ⟨b, off, ha, hb, hat⟩ := h.at_ hn
    exact ⟨b, off, ha, Nat.lt_of_lt_of_le hb hk.size, fun i hi => (hk.cell (p := ⟨b, off + i, none⟩) hb (by simp)).trans (hat i hi)⟩⟩
theorem IntsArg.take {w : World} {a : Option Addr} {c : Nat} {xs : List Int} (h : IntsArg w a c xs) (k : Nat) : IntsArg w a c (xs.take k) :=
  ⟨by have := h.le; simp; omega, by have := h.small; simp; omega, fun hn => by
    obtain ⟨b, off, ha, hb, hat⟩ := h.at_ (by rintro rfl; simp at hn)
    exact ⟨b, off, ha, hb, fun i hi => by
      have hi2 : i < xs.length := by simp at hi; omega
      rw [hat i hi2]; simp⟩⟩

section
variable {H : Type} {enc : TypeId × Value → H} {W : World} {base : Nat} {spare : Nat → Bool} {held : Bool}
theorem tint_one : Tryd.prog.cellsOf 3 = 1 := by kernel_rfl
set_option maxRecDepth 100000 in
theorem open_nums {v : Value} {d : DataW H} {p : List MemPlace} (hv : Value.okWide Tryd.prog W .any 0 26 v) (h : DataW.Trod enc Tryd.prog W 0 (fun _ => true) true 26 v d p) :
    ∃ (a : Option Addr) (xs : List Int) (c : Nat), v = .slice a xs.length c ∧ IntsArg W a c xs := by
  obtain ⟨a0, len, cap, rfl⟩ := okWide_slice Tryd.underlying26 hv
  obtain ⟨fuel, hf⟩ := h
  rcases open_slice Tryd.underlying26 hf with ⟨hcs, _⟩ | ⟨a, len', cap', m, n, D, Pl, hcs, _, hl, hm, hmm, _, hx⟩
  · have hcs' : Value.slice a0 len cap = .slice none 0 0 := by simpa [Value.cells] using hcs
    injection hcs' with e1 e2 e3
    subst e1 e2 e3
    exact ⟨none, [], 0, rfl, by simp, by simp, fun h0 => absurd rfl h0⟩
  · have hcs' : Value.slice a0 len cap = .slice (some a) len' cap' := by simpa [Value.cells] using hcs
    injection hcs' with e1 e2 e3
    subst e1 e2 e3
    have hlm : len ≤ m := by rw [hmm]; simp only [if_true]; exact hl
    have hel : ∀ i, i < len → ∃ o : Int, W.cell? ((a.add (i * 1)).add 0) = some (.int .i64 o) := fun i hi => by
      obtain ⟨cs', h1, h2⟩ := hx i (by omega)
      rw [tint_one] at h1
      obtain ⟨_, hcl, hat⟩ := World.cells?_some h1
      match cs', hcl with
      | [c0], _ =>
        obtain ⟨k, e0, _, _⟩ := DataW.trod_int Tryd.underlying3 h2
        obtain rfl : c0 = .int .i64 k := by simpa using e0
        exact ⟨k, hat 0 (by omega)⟩
    obtain ⟨X, hX⟩ := choose_lt hel
    refine ⟨some a, (List.range len).map X, cap, by simp, by simpa using hl, by unfold maxLen at hm ⊢; simp; omega, fun h0 => ?_⟩
    have h0' : 0 < len := by
      rcases Nat.eq_zero_or_pos len with e | e
      · subst e; simp at h0
      · exact e
    obtain ⟨b, off, spot⟩ := a
    have hsp : spot = none := by
      have := hX 0 h0'
      simp only [Nat.zero_mul, Addr.add, if_true] at this
      unfold World.cell? at this
      split at this
      · split at this
        · cases this
        · rename_i hn; simpa using hn
      · cases this
    subst hsp
    have hadd : ∀ i, ((⟨b, off, none⟩ : Addr).add (i * 1)).add 0 = ⟨b, off + i, none⟩ := fun i => by
      unfold Addr.add
      split <;> simp_all
    refine ⟨b, off, rfl, ?_, fun i hi => ?_⟩
    · have := hX 0 h0'
      rw [hadd] at this
      exact World.block_lt_of_cell? W _ this
    · have hi' : i < len := by simpa using hi
      have := hX i hi'
      rw [hadd] at this
      simp only [List.getElem_map, List.getElem_range]
      exact this
end

theorem tints_elem : Tryd.prog.underlying 26 = some (.slice (Tryd.prog.elem 26)) := by kernel_rfl
theorem tints_size (W : World) : (sizeOf (Tryd.prog.elem 26)).run Tryd.prog W = .ok 1 W := by kernel_rfl
theorem add_zero_none (a : Option Addr) (c : Nat) : (if c = 0 then a else a.map (·.add (0 * 1))) = a := by
  split
  · rfl
  · cases a with
    | none => rfl
    | some a => simp [Addr.add]
/-- l[:k]. -/
theorem slice_to (a : Option Addr) (n c k : Nat) (hk : k ≤ c) (W : World) : (Instr.slice 26 (.slice a n c) none (some (.int .i64 (k : Int))) none).run Tryd.prog W = .ok (.slice a k c) W := by
  have h := run_slice_h (P := Tryd.prog) W 26 a n c tints_elem .i64 (k : Int) (by omega) (by omega)
  rw [h, tints_size]
  show Result.ok (sliced a 0 (k : Int).toNat c 1) W = _
  unfold sliced
  rw [add_zero_none]
  simp
theorem forty_min (xs : List Int) (n : Nat) (hn : xs.length = n) : ∃ M : Nat, (if (40 : Int) < (n : Int) then (40 : Int) else (n : Int)) = (M : Int) ∧ (xs.take 40).length = M ∧ M ≤ n :=
  ⟨(xs.take 40).length, by simp; split <;> omega, rfl, by simp; omega⟩

theorem nilrow (W : World) (B : Nat) : W.ownsRow B 9 1 (.slice none 0 0) 0 [] := ⟨rfl, .inl ⟨rfl, rfl⟩⟩
/-- A row of texts of the law's own stays where other blocks change. -/
theorem own_keeps {w w' : World} {B : Nat} {v : Value} {n : Nat} {xs : List Value} {S : List Nat} (h : w.ownsRow B 9 1 v n xs) (hk : Keeps S w w') (hS : ∀ k, v.ownBlock = some k → k ∉ S) : w'.ownsRow B 9 1 v n xs := by
  refine ⟨h.1, h.2.imp_right ?_⟩
  rintro ⟨g, c, cur, rfl, hb, hg, hr⟩
  exact ⟨g, c, cur, rfl, hb, (hk.block g (Array.getElem?_eq_some_iff.1 hg).1 (hS g rfl)).trans hg, hr⟩
theorem own_lt {w : World} {B : Nat} {v : Value} {n : Nat} {xs : List Value} (h : w.ownsRow B 9 1 v n xs) {k : Nat} (hk : v.ownBlock = some k) : B ≤ k ∧ k < w.heap.size ∧ ∃ cs, Blk w k 9 cs := by
  rcases h.2 with ⟨rfl, _⟩ | ⟨g, c, cur, rfl, hb, hg, _⟩
  · simp [Value.ownBlock] at hk
  · simp only [Value.ownBlock, Option.some.injEq] at hk
    subst hk
    exact ⟨hb, (Array.getElem?_eq_some_iff.1 hg).1, cur, hg⟩
theorem keeps_own {w w' : World} {v : Value} (hg : w.grownBy w' v.ownBlock) : Keeps v.ownBlock.toList w w' :=
  (Keeps.refl _ w).grown hg (fun k hk => .inl (by rw [hk]; simp))
theorem StrsV.apart {w w' : World} {a : Option Addr} {c : Nat} {xs : List ByteArray} {B : Nat} {S : List Nat} (h : StrsV w a c xs) (hf : Fr B a xs.length) (hk : Keeps S w w') (hS : ∀ k ∈ S, k < B) : StrsV w' a c xs :=
  ⟨h.le, fun hn => by
    obtain ⟨g, off, cs, fz, ha, hg, hat⟩ := h.at_ hn
    have hgB : B ≤ g := hf g off ha (List.length_pos_iff.2 hn)
    have hb := hk.block g (Array.getElem?_eq_some_iff.1 hg).1 (fun hm => by have := hS g hm; omega)
    exact ⟨g, off, cs, fz, ha, hb.trans hg, fun i hi => (World.cell?_of_block (a := ⟨g, off + i, none⟩) hb).trans (hat i hi)⟩, h.small, h.size, h.nil⟩
theorem Mt.apart {w w' : World} {B : Nat} {S : List Nat} (hk : Keeps S w w') (hS : ∀ k ∈ S, k < B) : ∀ {V : List SV} {L : List Sn}, Mt w V L → (∀ v ∈ V, FrV B v) → Mt w' V L
  | [], [], _, _ => trivial
  | v :: V, s :: L, h, hf => ⟨⟨h.1.1, h.1.2.1, h.1.2.2.1, h.1.2.2.2.apart (by have := hf v (by simp); unfold FrV at this; rw [h.1.2.2.1] at this; exact this) hk hS⟩, Mt.apart hk hS h.2 (fun x hx => hf x (by simp [hx]))⟩
  | [], _ :: _, h, _ => h.elim
  | _ :: _, [], h, _ => h.elim
theorem PoolV.apart {w w' : World} {a : Option Addr} {c : Nat} {V : List SV} {p : Po} {B : Nat} {S : List Nat} (h : PoolV w a c V p) (hf : ∀ v ∈ V, FrV B v) (hk : Keeps S w w') (hS : ∀ k ∈ S, k < B ∧ ∃ cs, Blk w k 9 cs) : PoolV w' a c V p :=
  ⟨h.le, h.small, h.row.keepsS hk (fun k hm cs fz hb => by
    obtain ⟨_, cs', hb'⟩ := hS k hm
    have hb2 : w.heap[k]? = some (.cells cs' 9 (0, 0)) := hb'
    rw [hb2] at hb
    injection hb with hb
    injection hb with _ h3 _
    exact absurd h3 (by decide)), h.mt.apart hk (fun k hm => (hS k hm).1) hf⟩

/-- SnapsWalk's memory between its rounds: w: the law's call, wL: the loop's begin. -/
structure WalkB (w wL wr : World) (qb : Nat) (va : Value) (all : List ByteArray) (cs : Array Value) : Prop where
  b : Blk wr qb 24 cs
  k : Keeps [] w wr
  kL : Keeps [qb] wL wr
  own : wr.ownsRow wL.heap.size 9 1 va all.length (all.map Value.string)
theorem WalkB.calm {w wL wr w1 : World} {qb : Nat} {va : Value} {all : List ByteArray} {cs : Array Value} (h : WalkB w wL wr qb va all cs) (hk : Keeps [] wr w1) : WalkB w wL w1 qb va all cs :=
  ⟨h.b.keeps hk (by simp), h.k.trans hk, h.kL.trans ⟨hk.os, hk.tape, hk.output, hk.size, fun k hk2 _ => hk.block k hk2 (by simp)⟩, own_keeps h.own hk (fun _ _ => by simp)⟩
/-- The pool's variable is written. -/
theorem WalkB.put {w wL wr : World} {qb : Nat} {va : Value} {all : List ByteArray} {v0 v1 : Value} (h : WalkB w wL wr qb va all #[v0, v1]) (hq : w.heap.size ≤ qb) (hqL : qb < wL.heap.size) (u0 u1 : Value) :
    WalkB w wL ((wr.setCell ⟨qb, 0, none⟩ u0).setCell ⟨qb, 1, none⟩ u1) qb va all #[u0, u1] := by
  have hks : Keeps [qb] wr ((wr.setCell ⟨qb, 0, none⟩ u0).setCell ⟨qb, 1, none⟩ u1) := ((Keeps.refl [qb] wr).setCell (p := ⟨qb, 0, none⟩) (.inl (by simp)) _).setCell (p := ⟨qb, 1, none⟩) (.inl (by simp)) _
  exact ⟨(h.b.set_ 0 _).set_ 1 _, keeps_box h.k hq, h.kL.trans hks, own_keeps h.own hks (fun k hk2 hm => by
    have := (own_lt h.own hk2).1
    rw [List.mem_singleton] at hm
    omega)⟩
set_option maxRecDepth 100000 in
/-- The page is put behind what was taken. -/
theorem WalkB.app {w wL wr : World} {qb : Nat} {va : Value} {all : List ByteArray} {cs : Array Value} (h : WalkB w wL wr qb va all cs) (hwL : w.heap.size ≤ wL.heap.size) (hqL : qb < wL.heap.size)
    {pa : Option Addr} {pc : Nat} {pg : List ByteArray} (hs : StrsV wr pa pc pg) (hl : all.length ≤ 1000000) (ty : TypeId) :
    ∃ va' w2, (Builtin.append_ #[25, 25] ty #[va, .slice pa pg.length pc]).run Tryd.prog wr = .ok va' w2 ∧ WalkB w wL w2 qb va' (all ++ pg) cs ∧ Keeps va.ownBlock.toList wr w2 := by
  obtain ⟨va', w2, hr, ho, hg⟩ := app_strs h.own h.kL.size hs hl ty
  have hk := keeps_own hg
  have hlo : ∀ k ∈ va.ownBlock.toList, wL.heap.size ≤ k := fun k hk2 => (own_lt h.own (by simpa using hk2)).1
  refine ⟨va', w2, hr, ⟨h.b.keeps hk (fun hm => by have := hlo _ hm; omega), h.k.grown hg (fun k hk2 => .inr (by have := (own_lt h.own hk2).1; omega)), h.kL.grown hg (fun k hk2 => .inr (own_lt h.own hk2).1), ho⟩, hk⟩
end Go.Proofs.YtbcppmcjbcnlbaaDoor
