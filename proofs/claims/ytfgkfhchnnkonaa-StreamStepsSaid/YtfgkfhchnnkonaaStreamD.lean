/- The search's memory: a map from states to numbers, a slice of states. -/
import Derived.Test.YtfgkfhchnnkonaaStreamC
import Derived.Test.YtfgkfhchnnkonaaStreamQ
import Derived.Test.YtfgkfhchnnkonaaIterB
import Derived.Maps.OwnIn
import Derived.Maps.Views
import Derived.Deep.AppendSrc
namespace Go.Proofs.Ytfgkfhchnnkonaa
open Go.RowKit Go.Shelf

/-- At block b lies the map far. -/
def FarAt (W : World) (b n : Nat) (far : List (Nat × Nat)) : Prop :=
  ∃ D : DataW Unit, W.ownsMap Try.prog 38 (plainElem Try.prog 3) b n D ∧ Maps.IsMap D ∧
    ∀ s : Nat, s ≤ 6 → Maps.has D (.int .i64 (s : Int)) = (farOf far s).isSome ∧ D.atKey (.int .i64 (s : Int)) (.lit (.int .i64 0)) = .lit (.int .i64 (((farOf far s).getD 0 : Nat) : Int))

theorem keyed_state : Maps.Keyed Try.prog 38 := Maps.int_keyed Try.underlying38
theorem zero_int (W : World) : (zeroValue 3).run Try.prog W = .ok (.int .i64 0) W := by kernel_rfl
theorem wf_small (s : Nat) (h : s ≤ 100) : (Lit.int .i64 (s : Int)).wf = true := by
  simp [Lit.wf]
  exact ⟨by show (-9223372036854775808 : Int) ≤ _; omega, by omega⟩
theorem key_state (s : Nat) (h : s ≤ 100) : keyOf Try.prog 38 (.int .i64 (s : Int)) = some (.int .i64 (s : Int)) := Maps.keyOf_int_mk Try.underlying38 (wf_small s h)

theorem FarAt.lt {W : World} {b n : Nat} {far : List (Nat × Nat)} (h : FarAt W b n far) : b < W.heap.size := by obtain ⟨D, h1, _⟩ := h; exact h1.lt
theorem FarAt.same {W W' : World} {b n : Nat} {far : List (Nat × Nat)} (h : FarAt W b n far) (hb : W'.heap[b]? = W.heap[b]?) : FarAt W' b n far := by
  obtain ⟨D, ⟨es, clock, h1, h2, h3, h4⟩, hm, hs⟩ := h
  exact ⟨D, ⟨es, clock, hb.trans h1, h2, h3, h4⟩, hm, hs⟩
theorem FarAt.mono {W : World} {b n m : Nat} {far : List (Nat × Nat)} (h : FarAt W b n far) (hn : n ≤ m) : FarAt W b m far := by
  obtain ⟨D, h1, h2⟩ := h
  exact ⟨D, h1.mono hn, h2⟩
theorem FarAt.isMap {W : World} {b n : Nat} {far : List (Nat × Nat)} (h : FarAt W b n far) : ∃ es c, W.heap[b]? = some (.map es c) := by
  obtain ⟨D, ⟨es, clock, h1, _⟩, _⟩ := h
  exact ⟨es, clock, h1⟩
theorem FarAt.look {W : World} {b n : Nat} {far : List (Nat × Nat)} (h : FarAt W b n far) (s : Nat) (hs : s ≤ 6) :
    (Instr.lookup 52 (.map (some b)) (.int .i64 (s : Int)) false).run Try.prog W = .ok (.int .i64 (((farOf far s).getD 0 : Nat) : Int)) W := by
  obtain ⟨D, h1, _, h2⟩ := h
  obtain ⟨c, hrun, hat, _⟩ := h1.lookup_int (t := 52) (e := 3) (q := .i64) keyed_state Try.underlying52 Try.underlying3 (zero_int W) (key_state s (by omega))
  rw [(h2 s hs).2] at hat
  injection hat with hat
  injection hat with _ hat
  rw [hrun, hat]
theorem FarAt.look_ok {W : World} {b n : Nat} {far : List (Nat × Nat)} (h : FarAt W b n far) (s : Nat) (hs : s ≤ 6) :
    (Instr.lookup 52 (.map (some b)) (.int .i64 (s : Int)) true).run Try.prog W = .ok (.tuple #[.int .i64 (((farOf far s).getD 0 : Nat) : Int), .bool (farOf far s).isSome]) W := by
  obtain ⟨D, h1, _, h2⟩ := h
  obtain ⟨v, ps, hrun, hv⟩ := h1.look_ok (t := 52) (e := 3) keyed_state Try.underlying52 (zero_int W) (plainElem_int Try.underlying3 (by decide)) (key_state s (by omega))
  obtain ⟨c, rfl, hc, _⟩ := plainElem_int_inv Try.underlying3 hv
  have hat := congrArg Prod.fst hc
  simp only [(h2 s hs).2] at hat
  injection hat with hat
  injection hat with _ hat
  rw [hrun, (h2 s hs).1, hat]
theorem FarAt.update {W : World} {b n : Nat} {far : List (Nat × Nat)} (h : FarAt W b n far) (t d : Nat) (ht : t ≤ 6) (hd : d ≤ 100) (hn : n < 1000) (hnew : farOf far t = none) :
    ∃ W', (Instr.mapUpdate 52 (.map (some b)) (.int .i64 (t : Int)) (.int .i64 (d : Int))).run Try.prog W = .ok () W' ∧ FarAt W' b (n + 1) (far ++ [(t, d)]) ∧ W.grownBy W' (some b) := by
  obtain ⟨D, h1, hm, h2⟩ := h
  obtain ⟨W', hrun, hown, hgr⟩ := h1.update (t := 52) (e := 3) keyed_state Try.underlying52 (by unfold maxLen; omega) (key_state t (by omega)) (plainElem_int Try.underlying3 (wf_small d hd))
  refine ⟨W', hrun, ⟨_, hown, hm.put _ _, fun s hs => ?_⟩, hgr⟩
  by_cases hst : s = t
  · subst hst
    rw [farOf_snoc_same hnew]
    exact ⟨Maps.has_put_same hm (k := .int .i64 _) trivial _, Maps.atKey_put_same hm (k := .int .i64 _) trivial _ _⟩
  · have hk : (Lit.int .i64 (s : Int)) ≠ .int .i64 (t : Int) := by
      intro e; injection e with _ e; omega
    rw [farOf_snoc_other hst]
    exact ⟨(Maps.has_put_other hk _).trans (h2 s hs).1, (Maps.atKey_put_other hk _ _).trans (h2 s hs).2⟩
theorem FarAt.new (W : World) : FarAt (W.alloc (.map #[] 0)) W.heap.size 0 [] :=
  ⟨.map [], World.ownsMap_made W _ _ _, Maps.isMap_empty, fun _ _ => ⟨rfl, rfl⟩⟩

/-- v is a slice of these numbers, which lies in a block from B on. -/
def Sl (W : World) (B : Nat) (v : Value) (xs : List Nat) : Prop :=
  ∃ b off cap, v = .slice (some ⟨b, off, none⟩) xs.length cap ∧ B ≤ b ∧ b < W.heap.size ∧ xs.length ≤ cap ∧ (∃ cs t z, W.heap[b]? = some (.cells cs t z)) ∧
    (∀ j, j < cap → (W.cell? ⟨b, off + j, none⟩).isSome = true ∧ W.frozen? ⟨b, off + j, none⟩ = false) ∧ ∀ j (h : j < xs.length), W.cell? ⟨b, off + j, none⟩ = some (.int .i64 (xs[j] : Int))

theorem Sl.same {W W' : World} {B : Nat} {v : Value} {xs : List Nat} (h : Sl W B v xs) (hk : FarK B W W') : Sl W' B v xs := by
  obtain ⟨b, off, cap, rfl, h1, h2, h3, ⟨cs, t, z, h4⟩, h5, h6⟩ := h
  have hb := hk.2 b h1 h2
  have hc : ∀ j, W'.cell? ⟨b, j, none⟩ = W.cell? ⟨b, j, none⟩ := fun j => World.cell?_of_block (a := ⟨b, j, none⟩) hb
  have hf : ∀ j, W'.frozen? ⟨b, j, none⟩ = W.frozen? ⟨b, j, none⟩ := fun j => World.frozen?_of_block (a := ⟨b, j, none⟩) hb
  exact ⟨b, off, cap, rfl, h1, Nat.lt_of_lt_of_le h2 hk.1, h3, ⟨cs, t, z, hb.trans h4⟩, fun j hj => by rw [hc, hf]; exact h5 j hj, fun j hj => by rw [hc]; exact h6 j hj⟩
theorem Sl.new (W : World) (B s : Nat) (hB : B ≤ W.heap.size) (t : TypeId) : Sl (W.alloc (.cells #[.int .i64 (s : Int)] t)) B (.slice (some ⟨W.heap.size, 0, none⟩) 1 1) [s] := by
  have hb := Blk.new W t #[.int .i64 (s : Int)]
  refine ⟨W.heap.size, 0, 1, rfl, hB, by simp, by simp, ⟨_, _, _, hb⟩, fun j hj => ?_, fun j hj => ?_⟩
  · obtain rfl : j = 0 := by omega
    exact ⟨by rw [hb.cell]; rfl, hb.frozen _⟩
  · obtain rfl : j = 0 := by simpa using hj
    rw [hb.cell]; rfl
theorem Sl.pop {W : World} {B : Nat} {v : Value} {s : Nat} {xs : List Nat} (h : Sl W B v (s :: xs)) :
    ∃ b off cap v', v = .slice (some ⟨b, off, none⟩) (xs.length + 1) cap ∧ W.cell? ⟨b, off, none⟩ = some (.int .i64 (s : Int)) ∧ Sl W B v' xs ∧
      ∀ W2, (Instr.slice 53 (.slice (some ⟨b, off, none⟩) (xs.length + 1) cap) (some (.int .i64 1)) none none).run Try.prog W2 = .ok v' W2 := by
  obtain ⟨b, off, cap, rfl, h1, h2, h3, h4, h5, h6⟩ := h
  have hrun : ∀ W2, (Instr.slice 53 (.slice (some ⟨b, off, none⟩) (xs.length + 1) cap) (some (.int .i64 1)) none none).run Try.prog W2 = .ok (sliced (some ⟨b, off, none⟩) 1 (xs.length + 1) cap 1) W2 := fun W2 => by
    have ht : Try.prog.underlying 53 = some (.slice (Try.prog.elem 53)) := by kernel_rfl
    have hsz : (sizeOf (Try.prog.elem 53)).run Try.prog W2 = .ok 1 W2 := by kernel_rfl
    have h1 := run_slice_l (P := Try.prog) W2 53 (some ⟨b, off, none⟩) (xs.length + 1) cap ht .i64 1 (by omega) (by omega)
    rw [h1, hsz]
    rfl
  refine ⟨b, off, cap, _, rfl, h6 0 (by simp), ?_, hrun⟩
  unfold sliced
  by_cases hc : cap = 1
  · subst hc
    have hx : xs = [] := by simpa using h3
    subst hx
    rw [if_pos rfl]
    exact ⟨b, off, 0, rfl, h1, h2, Nat.le_refl _, h4, fun j hj => by omega, fun j hj => by simp at hj⟩
  · rw [if_neg hc]
    refine ⟨b, off + 1, cap - 1, by simp [Addr.add], h1, h2, by simp at h3; omega, h4, fun j hj => ?_, fun j hj => ?_⟩
    · have := h5 (1 + j) (by omega)
      rwa [← Nat.add_assoc] at this
    · have := h6 (1 + j) (by simp; omega)
      rw [← Nat.add_assoc] at this
      rw [this]
      simp [Nat.add_comm 1 j]
theorem states_info : (Try.prog.info? 38).map (fun i => (i.zero, i.size, i.bytes)) = some (some (.int .i64 0), 1, 8) := by kernel_rfl
/-- One more: some slice, some world. -/
theorem Sl.push {W : World} {B : Nat} {v : Value} {xs : List Nat} (h : Sl W B v xs) (hl : xs.length ≤ 100) (hB : B ≤ W.heap.size) (g t : Nat) (hg : W.cell? ⟨g, 0, none⟩ = some (.int .i64 (t : Int))) (ty : TypeId) :
    ∃ v' W', (Builtin.append_ #[53, 53] ty #[v, .slice (some ⟨g, 0, none⟩) 1 1]).run Try.prog W = .ok v' W' ∧ Sl W' B v' (xs ++ [t]) ∧ Below B W W' ∧ ∀ (k : Nat) (o : Obj), W.heap[k]? = some o → o.isCells = false → W'.heap[k]? = some o := by
  obtain ⟨i0, hi, hz0, hz1, hz2⟩ := info_parts states_info
  obtain ⟨b, off, cap, rfl, h1, h2, h3, ⟨cs, ct, z, h4⟩, h5, h6⟩ := h
  have hsrc : Src Try.prog i0.size 53 (.slice (some ⟨g, 0, none⟩) 1 1) 1 [.int .i64 (t : Int)] W :=
    Src.ofSlice W (by first | exact Try.underlying53 | kernel_rfl) _ 1 1 _ (by rw [hz1]; rfl) (fun j u hj => by
      match j with
      | 0 => simp at hj; subst hj; exact hg
      | j + 1 => simp at hj) (fun u hu => by simp at hu; subst hu; rfl)
  have hund : Try.prog.underlying 53 = some (.slice 38) := by kernel_rfl
  by_cases hroom : xs.length + 1 ≤ cap
  · have hcell := h5 xs.length (by omega)
    refine ⟨_, _, run_append_room_src (P := Try.prog) W 53 53 ty 38 i0 hund hi b off xs.length cap _ 1 _ hsrc hroom (fun j hj => ?_) (fun j hj => ?_), ?_, ?_, ?_⟩
    · obtain rfl : j = 0 := by simpa using hj
      rw [hz1]; simpa using hcell.1
    · obtain rfl : j = 0 := by simpa using hj
      rw [hz1]; simpa using hcell.2
    · rw [hz1, Nat.mul_one]
      show Sl (W.setCell ⟨b, off + xs.length, none⟩ (.int .i64 (t : Int))) B _ _
      obtain ⟨u, hu⟩ := Option.isSome_iff_exists.1 hcell.1
      have hcs : ∀ j, j ≠ xs.length → (W.setCell ⟨b, off + xs.length, none⟩ (.int .i64 (t : Int))).cell? ⟨b, off + j, none⟩ = W.cell? ⟨b, off + j, none⟩ := fun j hj => World.cell?_setCell_other _ _ _ _ (by first | (simp; done) | (simp; omega))
      refine ⟨b, off, cap, by simp, h1, by simpa [World.setCell] using h2, by simpa using hroom, ⟨cs.setIfInBounds (off + xs.length) (.int .i64 (t : Int)), ct, z, ?_⟩, fun j hj => ⟨?_, ?_⟩, fun j hj => ?_⟩
      · simp [World.setCell, Array.getElem?_modify, h4]
      · by_cases e : j = xs.length
        · subst e; rw [World.cell?_setCell_same _ _ _ hu]; rfl
        · rw [hcs j e]; exact (h5 j hj).1
      · have := (h5 j hj).2
        simpa using this
      · by_cases e : j = xs.length
        · subst e; rw [World.cell?_setCell_same _ _ _ hu]; simp
        · have hj2 : j < xs.length := by simp at hj; omega
          rw [hcs j e, h6 j hj2, List.getElem_append_left hj2]
    · rw [hz1, Nat.mul_one]
      exact (Below.refl B W).setCell (p := ⟨b, off + xs.length, none⟩) h1 _
    · intro k o hk ho
      rw [hz1, Nat.mul_one]
      have hne : k ≠ b := by
        rintro rfl
        rw [h4] at hk; cases hk; cases ho
      exact (Below.heap_setCell W ⟨b, off + xs.length, none⟩ _ k hne).trans hk
  · obtain rfl : cap = xs.length := by omega
    have hold : (Builtin.firstCells i0.size xs.length (.slice (some ⟨b, off, none⟩) xs.length xs.length)).run Try.prog W.drew = .ok (xs.map fun s : Nat => Value.int .i64 (s : Int)).toArray W.drew :=
      run_firstCells_some W.drew i0.size xs.length _ _ _ _ (by rw [hz1]; simp) (fun j u hj => by
        rw [List.getElem?_map] at hj
        have hjl : j < xs.length := by
          rcases Nat.lt_or_ge j xs.length with h | h
          · exact h
          · rw [List.getElem?_eq_none h] at hj; cases hj
        rw [List.getElem?_eq_getElem hjl] at hj
        obtain rfl := Option.some.inj hj
        have := h6 j hjl
        rw [show ((⟨b, off, none⟩ : Addr).add j) = ⟨b, off + j, none⟩ by unfold Addr.add; split <;> simp_all]
        exact this)
    have hrun := run_append_grow_src (P := Try.prog) W 53 53 ty 38 i0 (.int .i64 0) hund hi hz0 (some ⟨b, off, none⟩) xs.length xs.length _ hold _ 1 _ hsrc (by omega) (by omega) (by
      rw [hz2]; exact growslice_fits (by omega) (by omega))
    obtain ⟨c, hc⟩ : ∃ c, grownCap W (xs.length + 1) xs.length 38 = c := ⟨_, rfl⟩
    have hge : xs.length + 1 ≤ c := by rw [← hc]; exact grownCap_ge _ _ _ _
    rw [hc] at hrun
    refine ⟨_, _, hrun, ?_, (Below.refl B W).drew.alloc hB _, fun k o hk _ => (Below.heap_alloc W.drew _ k (Array.getElem?_eq_some_iff.1 hk).1).trans hk⟩
    obtain ⟨A, hA⟩ : ∃ A, (((xs.map fun s : Nat => Value.int .i64 (s : Int)) ++ [Value.int .i64 (t : Int)]).toArray ++ Builtin.zeroCells (Value.int .i64 0).cells (c - (xs.length + 1))) = A := ⟨_, rfl⟩
    have hAs : A.size = c := by
      rw [← hA]; simp [Builtin.zeroCells, Value.cells]; omega
    rw [hA]
    have hb := Blk.new W.drew 38 A
    refine ⟨W.heap.size, 0, c, by simp, hB, by simp, by simpa using hge, ⟨_, _, _, hb⟩, fun j hj => ⟨?_, hb.frozen _⟩, fun j hj => ?_⟩
    · have := hb.cell (0 + j)
      rw [show W.drew.heap.size = W.heap.size from rfl] at this
      rw [this]; simp [hAs]; exact hj
    · have := hb.cell (0 + j)
      rw [show W.drew.heap.size = W.heap.size from rfl] at this
      rw [this, ← hA, Nat.zero_add, Array.getElem?_append_left (by simp at hj ⊢; omega)]
      simp only [List.getElem?_toArray]
      rcases Nat.lt_or_ge j xs.length with hlt | hge2
      · rw [List.getElem?_append_left (by simpa using hlt), List.getElem_append_left hlt]; simp [hlt]
      · obtain rfl : j = xs.length := by simp at hj; omega
        simp
end Go.Proofs.Ytfgkfhchnnkonaa
