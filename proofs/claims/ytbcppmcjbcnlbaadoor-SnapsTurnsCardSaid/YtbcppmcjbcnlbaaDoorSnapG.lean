/- Rows of listings that are written: append; the walk of own. -/
import Derived.Test.YtbcppmcjbcnlbaaDoorSnapF
import Derived.Deep.AppendSrc
namespace Go.Proofs.YtbcppmcjbcnlbaaDoor
open Go.RowKit Go.Shelf
attribute [local go_sem ↓] Go.wp_at_zero Go.wp_at_succ

/-- Below block B, and in blocks of texts, nothing has changed. -/
structure StrK (B : Nat) (W W' : World) : Prop where
  low : Below B W W'
  strs : ∀ (k : Nat) (cs : Array Value) (fz : Nat × Nat), W.heap[k]? = some (Obj.cells cs 9 fz) → W'.heap[k]? = some (Obj.cells cs 9 fz)
theorem StrK.refl (B : Nat) (W : World) : StrK B W W := ⟨Below.refl B W, fun _ _ _ h => h⟩
theorem StrK.trans {B : Nat} {X Y Z : World} (h : StrK B X Y) (k : StrK B Y Z) : StrK B X Z := ⟨h.low.trans k.low, fun i cs fz hi => k.strs i cs fz (h.strs i cs fz hi)⟩
theorem StrK.of_keeps {B : Nat} {W W' : World} (h : Keeps [] W W') (hB : B ≤ W.heap.size) : StrK B W W' :=
  ⟨h.below hB (by simp), fun k _ _ hk => (h.block k (Array.getElem?_eq_some_iff.1 hk).1 (by simp)).trans hk⟩
theorem StrK.of_one {B g : Nat} {W W' : World} (h : Keeps [g] W W') (hB : B ≤ W.heap.size) (hg : B ≤ g) (hn : ∃ cs, W.heap[g]? = some (.cells cs 39 (0, 0))) : StrK B W W' :=
  ⟨h.below hB (by simp; exact hg), fun k cs fz hk => (h.block k (Array.getElem?_eq_some_iff.1 hk).1 (by
    simp
    rintro rfl
    obtain ⟨c2, h2⟩ := hn
    rw [h2] at hk
    injection hk with hk
    injection hk with _ h3 _
    exact absurd h3 (by decide))).trans hk⟩
theorem StrK.mono {B B' : Nat} {W W' : World} (h : StrK B W W') (hb : B' ≤ B) : StrK B' W W' := ⟨h.low.mono hb, h.strs⟩
theorem StrsIn.strK {B : Nat} {w w' : World} {a : Option Addr} {L : List ByteArray} (h : StrsIn w a L) (hk : StrK B w w') : StrsIn w' a L := fun hn => by
  obtain ⟨g, off, cs, fz, ha, hg, hat⟩ := h hn
  have hg' := hk.strs g cs fz hg
  exact ⟨g, off, cs, fz, ha, hg', fun i hi => (World.cell?_of_block (a := ⟨g, off + i, none⟩) (hg'.trans hg.symm)).trans (hat i hi)⟩
theorem StrsV.strK {B : Nat} {w w' : World} {a : Option Addr} {c : Nat} {xs : List ByteArray} (h : StrsV w a c xs) (hk : StrK B w w') : StrsV w' a c xs := ⟨h.le, h.at_.strK hk, h.small, h.size, h.nil⟩
theorem Mt1.strK {B : Nat} {w w' : World} {v : SV} {s : Sn} (h : Mt1 w v s) (hk : StrK B w w') : Mt1 w' v s := ⟨h.1, h.2.1, h.2.2.1, h.2.2.2.strK hk⟩
theorem Mt.strK {B : Nat} {w w' : World} (hk : StrK B w w') : ∀ {V : List SV} {L : List Sn}, Mt w V L → Mt w' V L
  | [], [], _ => trivial
  | _ :: _, _ :: _, h => ⟨h.1.strK hk, Mt.strK hk h.2⟩
  | [], _ :: _, h => h.elim
  | _ :: _, [], h => h.elim

/-- From cell off of block g on n cells of a row of listings. -/
structure Seg (W : World) (g off n : Nat) : Prop where
  blk : ∃ cs, W.heap[g]? = some (.cells cs 39 (0, 0))
  cells : ∀ j, j < n → (W.cell? ⟨g, off + j, none⟩).isSome = true
def SegIs (W : World) (g off : Nat) (vs : List Value) : Prop := ∀ j (h : j < vs.length), W.cell? ⟨g, off + j, none⟩ = some vs[j]
theorem Seg.lt {W : World} {g off n : Nat} (h : Seg W g off n) : g < W.heap.size := by obtain ⟨cs, h⟩ := h.blk; exact (Array.getElem?_eq_some_iff.1 h).1
theorem Seg.frozen {W : World} {g off n : Nat} (h : Seg W g off n) (j : Nat) : W.frozen? ⟨g, j, none⟩ = false := by
  obtain ⟨cs, h⟩ := h.blk
  exact Blk.frozen (show Blk W g 39 cs from h) j
theorem Seg.same {W W' : World} {g off n : Nat} (h : Seg W g off n) (hb : W'.heap[g]? = W.heap[g]?) : Seg W' g off n := by
  obtain ⟨⟨cs, h1⟩, h2⟩ := h
  exact ⟨⟨cs, hb.trans h1⟩, fun j hj => by rw [World.cell?_of_block (a := ⟨g, off + j, none⟩) hb]; exact h2 j hj⟩
theorem SegIs.same {W W' : World} {g off : Nat} {vs : List Value} (h : SegIs W g off vs) (hb : W'.heap[g]? = W.heap[g]?) : SegIs W' g off vs := fun j hj => by
  rw [World.cell?_of_block (a := ⟨g, off + j, none⟩) hb]; exact h j hj
theorem row_setCells {t : TypeId} {z : Nat × Nat} (b : Nat) : ∀ (vs : List Value) (o : Nat) (W : World) (g : Nat), (∃ cs, W.heap[g]? = some (.cells cs t z)) → ∃ cs, (W.setCells b o vs).heap[g]? = some (.cells cs t z)
  | [], _, _, _, h => h
  | v :: vs, o, W, g, ⟨cs, h⟩ => by
    refine row_setCells b vs (o + 1) _ g ?_
    by_cases e : g = b
    · subst e
      exact ⟨cs.setIfInBounds o v, by simp [World.setCell, Array.getElem?_modify, h]⟩
    · exact ⟨cs, (Below.heap_setCell W ⟨b, o, none⟩ v g e).trans h⟩
theorem isSome_setCells (b : Nat) : ∀ (vs : List Value) (o : Nat) (W : World) (x : Addr), (W.cell? x).isSome = true → ((W.setCells b o vs).cell? x).isSome = true
  | [], _, _, _, h => h
  | v :: vs, o, W, x, h => by
    refine isSome_setCells b vs (o + 1) _ x ?_
    by_cases e : x = ⟨b, o, none⟩
    · subst e
      obtain ⟨u, hu⟩ := Option.isSome_iff_exists.1 h
      rw [World.cell?_setCell_same _ _ _ hu]; rfl
    · rw [World.cell?_setCell_other _ _ _ _ (by simpa using Ne.symm e)]; exact h
theorem Seg.setCells {W : World} {g off n : Nat} (h : Seg W g off n) (o : Nat) (vs : List Value) : Seg (W.setCells g o vs) g off n :=
  ⟨row_setCells g vs o W g h.blk, fun j hj => isSome_setCells g vs o W _ (h.cells j hj)⟩
theorem keeps_setCells (g o : Nat) (vs : List Value) (W : World) : Keeps [g] W (W.setCells g o vs) := Keeps.setCells (.inl (by simp)) vs o (Keeps.refl [g] W)

/-- v is a slice of these listings' cells, in a row from block B on. -/
def SRow (W : World) (B : Nat) (v : Value) (V : List SV) : Prop := (v = .slice none 0 0 ∧ V = []) ∨
  ∃ g off cap, v = .slice (some ⟨g, off, none⟩) V.length cap ∧ B ≤ g ∧ Seg W g off (cap * 3) ∧ V.length ≤ cap ∧ cap ≤ maxLen ∧ SegIs W g off (V.flatMap SV.cells)
theorem SRow.keeps {W W' : World} {B : Nat} {v : Value} {V : List SV} (h : SRow W B v V) (hk : Keeps [] W W') : SRow W' B v V := by
  rcases h with h | ⟨g, off, cap, h1, h2, h3, h4, h5, h6⟩
  · exact .inl h
  · have hb := hk.block g h3.lt (by simp)
    exact .inr ⟨g, off, cap, h1, h2, h3.same hb, h4, h5, h6.same hb⟩
theorem SRow.down {W : World} {B B' : Nat} {v : Value} {V : List SV} (h : SRow W B v V) (hb : B' ≤ B) : SRow W B' v V := by
  rcases h with h | ⟨g, off, cap, h1, h2, h3⟩
  · exact .inl h
  · exact .inr ⟨g, off, cap, h1, by omega, h3⟩
theorem flat_len : ∀ (V : List SV), (V.flatMap SV.cells).length = V.length * 3
  | [] => rfl
  | s :: V => by rw [List.flatMap_cons, List.length_append, flat_len V, List.length_cons]; simp [SV.cells]; omega
theorem flat_at : ∀ (V : List SV) (i : Nat) (h : i < V.length), (V.flatMap SV.cells)[i * 3]? = some (.int .i64 V[i].cur) ∧ (V.flatMap SV.cells)[i * 3 + 1]? = some (.slice V[i].ia V[i].il V[i].ic) ∧ (V.flatMap SV.cells)[i * 3 + 2]? = some (.int .i64 V[i].used)
  | x :: L, 0, _ => ⟨rfl, rfl, rfl⟩
  | x :: L, i + 1, h => by
    obtain ⟨h0, h1, h2⟩ := flat_at L i (by simpa using h)
    rw [List.flatMap_cons]
    have hl : x.cells.length = 3 := rfl
    refine ⟨?_, ?_, ?_⟩
    · rw [List.getElem?_append_right (by omega), hl, show (i + 1) * 3 - 3 = i * 3 by omega, h0]; rfl
    · rw [List.getElem?_append_right (by omega), hl, show (i + 1) * 3 + 1 - 3 = i * 3 + 1 by omega, h1]; rfl
    · rw [List.getElem?_append_right (by omega), hl, show (i + 1) * 3 + 2 - 3 = i * 3 + 2 by omega, h2]; rfl
theorem SegIs.get {W : World} {g off : Nat} {vs : List Value} (h : SegIs W g off vs) {j : Nat} {u : Value} (hj : vs[j]? = some u) : W.cell? ⟨g, off + j, none⟩ = some u := by
  obtain ⟨hl, rfl⟩ := List.getElem?_eq_some_iff.1 hj
  exact h j hl
theorem SRow.row {W : World} {B : Nat} {v : Value} {V : List SV} (h : SRow W B v V) : ∃ a c, v = .slice a V.length c ∧ V.length ≤ c ∧ RowIn W a V := by
  rcases h with ⟨rfl, rfl⟩ | ⟨g, off, cap, rfl, h2, h3, h4, h5, h6⟩
  · exact ⟨none, 0, rfl, Nat.le_refl _, fun h => absurd rfl h⟩
  · obtain ⟨cs, hcs⟩ := h3.blk
    refine ⟨_, cap, rfl, h4, fun _ => ⟨g, off, cs, (0, 0), rfl, hcs, fun i hi => ?_⟩⟩
    obtain ⟨f0, f1, f2⟩ := flat_at V i hi
    exact ⟨h6.get f0, by rw [Nat.add_assoc]; exact h6.get f1, by rw [Nat.add_assoc]; exact h6.get f2⟩
theorem one_cells (V : List SV) : ∀ u ∈ V.flatMap SV.cells, u.oneCell' = true := by
  intro u hu
  obtain ⟨f, _, h⟩ := List.mem_flatMap.1 hu
  simp only [SV.cells, List.mem_cons, List.not_mem_nil, or_false] at h
  rcases h with rfl | rfl | rfl <;> rfl

def rowB : Value → List Nat
  | .slice (some a) _ _ => [a.block]
  | _ => []

set_option maxRecDepth 100000 in
/-- The row's block. -/
theorem SRow.pushK {W : World} {B : Nat} {v : Value} {V : List SV} (h : SRow W B v V) (hl : V.length ≤ 1000) (hB : B ≤ W.heap.size) (b : Nat) (x : SV) (hg : Blk W b 39 x.arr) (ty : TypeId) :
    ∃ v' W', (Builtin.append_ #[22, 22] ty #[v, .slice (some ⟨b, 0, none⟩) 1 1]).run Tryd.prog W = .ok v' W' ∧ SRow W' B v' (V ++ [x]) ∧ StrK B W W' ∧ Keeps (rowB v) W W' := by
  obtain ⟨i0, hi, hz0, hz1, hz2⟩ := info_parts snap_info
  have hsrc : Src Tryd.prog i0.size 22 (.slice (some ⟨b, 0, none⟩) 1 1) 1 x.cells W :=
    Src.ofSlice W Tryd.underlying22 _ 1 1 _ (by rw [hz1]; rfl) (fun j u hj => by
      rw [addr_add, hg.cell, Nat.zero_add]
      have : x.arr[j]? = x.cells[j]? := by simp [SV.arr, SV.cells]
      rw [this]; exact hj) (fun u hu => one_cells [x] u (by simpa using hu))
  have hfl : (V ++ [x]).flatMap SV.cells = V.flatMap SV.cells ++ x.cells := by simp
  have hvl : (V.flatMap SV.cells).length = V.length * 3 := flat_len V
  have grow : ∀ (a : Option Addr) (sLen sCap : Nat) (olds : List Value), sLen = V.length → olds = V.flatMap SV.cells → sCap < sLen + 1 → sCap ≤ 1000 → (Builtin.firstCells i0.size sLen (.slice a sLen sCap)).run Tryd.prog W.drew = .ok olds.toArray W.drew →
      ∃ v' W', (Builtin.append_ #[22, 22] ty #[.slice a sLen sCap, .slice (some ⟨b, 0, none⟩) 1 1]).run Tryd.prog W = .ok v' W' ∧ SRow W' B v' (V ++ [x]) ∧ StrK B W W' ∧ ∀ S, Keeps S W W' := by
    rintro a sLen sCap olds rfl rfl hcap hc2 hold
    have hrun := run_append_grow_src (P := Tryd.prog) W 22 22 ty 39 i0 _ Tryd.underlying22 hi hz0 a V.length sCap _ hold _ 1 _ hsrc hcap (by omega) (by
      rw [hz2]; exact growslice_fits (by omega) (by omega))
    obtain ⟨c, hc⟩ : ∃ c, grownCap W (V.length + 1) sCap 39 = c := ⟨_, rfl⟩
    have hge : V.length + 1 ≤ c := by rw [← hc]; exact grownCap_ge _ _ _ _
    have hle : c ≤ maxLen := by rw [← hc]; exact grownCap_le_maxLen _ _ _ _ (by unfold maxLen; omega)
    rw [hc] at hrun
    refine ⟨_, _, hrun, ?_, ?_⟩
    · obtain ⟨A, hA⟩ : ∃ A, ((V.flatMap SV.cells ++ x.cells).toArray ++ Builtin.zeroCells (Value.agg #[.int .i64 0, .slice none 0 0, .int .i64 0]).cells (c - (V.length + 1))) = A := ⟨_, rfl⟩
      have hAs : A.size = c * 3 := by
        rw [← hA]; simp only [Array.size_append, List.size_toArray, List.length_append, hvl]
        have : x.cells.length = 3 := rfl
        rw [this, size_zeroCells]
        have : (Value.agg #[.int .i64 0, .slice none 0 0, .int .i64 0]).cells.size = 3 := rfl
        rw [this]
        omega
      rw [hA]
      have hb := Blk.new W.drew 39 A
      refine .inr ⟨W.heap.size, 0, c, by simp, hB, ⟨⟨A, hb⟩, fun j hj => ?_⟩, by simpa using hge, hle, fun j hj => ?_⟩
      · have := hb.cell (0 + j)
        rw [show W.drew.heap.size = W.heap.size from rfl] at this
        rw [this, Array.getElem?_eq_getElem (by omega)]; rfl
      · have := hb.cell (0 + j)
        rw [show W.drew.heap.size = W.heap.size from rfl] at this
        rw [this, ← hA, Nat.zero_add]
        have hj' : j < (V.flatMap SV.cells ++ x.cells).length := by rw [← hfl]; exact hj
        rw [Array.getElem?_append_left (by simpa using hj')]
        simp only [List.getElem?_toArray]
        rw [List.getElem?_eq_getElem hj']
        congr 1
        simp only [hfl]
    · exact ⟨⟨(Below.refl B W).drew.alloc hB _, fun k cs fz hk => (Below.heap_alloc W.drew _ k (Array.getElem?_eq_some_iff.1 hk).1).trans hk⟩, fun S => (Keeps.refl S W).drew.alloc _⟩
  rcases h with ⟨rfl, rfl⟩ | ⟨g, off, cap, rfl, h2, h3, h4, h5, h6⟩
  · obtain ⟨v', W', h1, h2, h3, h4⟩ := grow none 0 0 [] rfl rfl (by omega) (by omega) (run_firstCells_none W.drew i0.size 0 0 0)
    exact ⟨v', W', h1, h2, h3, h4 _⟩
  · by_cases hroom : V.length + 1 ≤ cap
    · have hin : ∀ j, j < x.cells.length → V.length * 3 + j < cap * 3 := fun j hj => by have : x.cells.length = 3 := rfl; omega
      have hcl : ∀ j, j < x.cells.length → (W.cell? ⟨g, off + V.length * 3 + j, none⟩).isSome = true := fun j hj => by
        have := h3.cells (V.length * 3 + j) (hin j hj)
        rwa [← Nat.add_assoc] at this
      refine ⟨_, _, run_append_room_src (P := Tryd.prog) W 22 22 ty 39 i0 Tryd.underlying22 hi g off V.length cap _ 1 _ hsrc hroom (fun j hj => by rw [hz1]; exact hcl j hj) (fun j hj => h3.frozen _), ?_, ?_⟩
      · rw [hz1]
        refine .inr ⟨g, off, cap, by simp, h2, h3.setCells _ _, by simpa using hroom, h5, fun j hj => ?_⟩
        have hj' : j < (V.flatMap SV.cells ++ x.cells).length := by rw [← hfl]; exact hj
        have he : ((V ++ [x]).flatMap SV.cells)[j] = (V.flatMap SV.cells ++ x.cells)[j] := by simp only [hfl]
        rw [he]
        rcases Nat.lt_or_ge j (V.length * 3) with hlt | hge
        · rw [World.cell?_setCells_out _ _ _ _ _ (fun _ _ => .inl (by dsimp only; omega)), List.getElem_append_left (by omega)]
          exact h6 j (by omega)
        · obtain ⟨r, rfl⟩ : ∃ r, j = V.length * 3 + r := ⟨j - V.length * 3, by omega⟩
          rw [← Nat.add_assoc, World.cell?_setCells_in g x.cells (off + V.length * 3) W hcl r (by simp only [List.length_append, hvl] at hj'; omega), List.getElem_append_right (by omega)]
          congr 2
          omega
      · rw [hz1]
        exact ⟨StrK.of_one (keeps_setCells g _ _ W) hB h2 h3.blk, keeps_setCells g _ _ W⟩
    · have hce : cap = V.length := by omega
      subst hce
      obtain ⟨v', W', q1, q2, q3, q4⟩ := grow (some ⟨g, off, none⟩) V.length V.length (V.flatMap SV.cells) rfl rfl (by omega) (by omega) (run_firstCells_some W.drew i0.size V.length _ _ _ _ (by rw [hz1, hvl]) (fun j u hj => by
        rw [addr_add]
        exact h6.get hj))
      exact ⟨v', W', q1, q2, q3, q4 _⟩
theorem SRow.push {W : World} {B : Nat} {v : Value} {V : List SV} (h : SRow W B v V) (hl : V.length ≤ 1000) (hB : B ≤ W.heap.size) (b : Nat) (x : SV) (hg : Blk W b 39 x.arr) (ty : TypeId) :
    ∃ v' W', (Builtin.append_ #[22, 22] ty #[v, .slice (some ⟨b, 0, none⟩) 1 1]).run Tryd.prog W = .ok v' W' ∧ SRow W' B v' (V ++ [x]) ∧ StrK B W W' := by
  obtain ⟨v', W', h1, h2, h3, _⟩ := h.pushK hl hB b x hg ty
  exact ⟨v', W', h1, h2, h3⟩
end Go.Proofs.YtbcppmcjbcnlbaaDoor
