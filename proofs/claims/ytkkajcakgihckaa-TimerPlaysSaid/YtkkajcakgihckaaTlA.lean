/- Words for the timer's laws. -/
import Derived.Test.YtkkajcakgihckaaTimZ
namespace Go.Proofs.Ytkkajcakgihckaa
open Go.RowKit Go.Shelf

/-- What calls leave of a list. -/
def runL (xs : List Op1) : List Ke := xs.foldl (fun L x => (doL L x).2) []
theorem runL_snoc {xs : List Op1} {k : Nat} (hk : k < xs.length) : runL (xs.take (k + 1)) = (doL (runL (xs.take k)) xs[k]).2 := by
  unfold runL
  rw [List.take_succ_eq_append_getElem hk, List.foldl_append]
  rfl
theorem loop_mem {ys : List Int} {k : Nat} {z key : Int} (h : ys[k]? = some z) (b : Bool) (hb : b = decide (key ∈ ys.take k)) : (b || (z == key)) = decide (key ∈ ys.take (k + 1)) := by
  rw [take_snoc h, hb]
  by_cases h1 : key ∈ ys.take k
  · simp [h1]
  · by_cases h2 : z = key
    · subst h2; simp
    · have : ¬ key = z := fun e => h2 e.symm
      simp [h1, h2, this]
theorem getI {w : World} {base : Nat} {v : Value} {ys : List Int} (h : NewI w base v ys) : ∃ a c, v = .slice a ys.length c ∧ ∀ i, i < ys.length → ∃ g off z, a = some ⟨g, off, none⟩ ∧ base ≤ g ∧ g < w.heap.size ∧ ys[i]? = some z ∧ w.cell? ⟨g, off + i, none⟩ = some (.int .i64 z) := by
  rcases h.2 with ⟨rfl, h0⟩ | ⟨g, cap, cur, rfl, hb, hg, hn, _, hs, ht⟩
  · exact ⟨none, 0, by rw [h0], fun i h1 => by omega⟩
  · refine ⟨_, cap, rfl, fun i hi => ⟨g, 0, ys[i], rfl, hb, Blk.lt (t := 3) (cs := cur) hg, List.getElem?_eq_getElem hi, ?_⟩⟩
    rw [Nat.zero_add, Blk.cell (t := 3) (cs := cur) hg]
    have h1 : (ys.map (Value.int .i64))[i]? = some (.int .i64 ys[i]) := by rw [List.getElem?_map, List.getElem?_eq_getElem hi]; rfl
    rw [← ht, List.getElem?_take, if_pos (by omega)] at h1
    simpa using h1

theorem set_ok {L : List Ke} {key at_ : Int} (h : (setA L key at_).1 = 0) : goodK key at_ = true ∧ (setA L key at_).2 = setL L key at_ := by
  unfold setA at h ⊢
  split
  · rename_i hg
    rw [if_pos hg] at h
    split
    · rename_i hf
      rw [if_pos hf] at h
      simp at h
    · exact ⟨hg, rfl⟩
  · rename_i hg
    rw [if_neg hg] at h
    simp at h
theorem set_cases (L : List Ke) (key at_ : Int) (h : TiGood L) : ((∃ er, setA L key at_ = (er, L)) ∧ ((setA L key at_).1 = 2 ∨ ((setA L key at_).1 = 92 ∧ (findL L key).isSome = false ∧ L.length = 64))) ∨ (goodK key at_ = true ∧ setA L key at_ = (0, setL L key at_)) := by
  unfold setA
  split
  · rename_i hg
    split
    · rename_i hf
      refine .inl ⟨⟨92, rfl⟩, .inr ⟨rfl, by rw [hf.1]; rfl, ?_⟩⟩
      have := h.le; omega
    · exact .inr ⟨hg, rfl⟩
  · exact .inl ⟨⟨2, rfl⟩, .inl rfl⟩
theorem good_at {key at_ : Int} (h : goodK key at_ = true) : 0 ≤ key ∧ key ≤ 1000000 ∧ 0 ≤ at_ ∧ at_ ≤ 1000000000000 := by
  simpa only [goodK, decide_eq_true_eq] using h
theorem due_len {L : List Ke} (h : L.length ≤ 64) (now : Int) : (keysL (dueL L now)).length ≤ 64 := by
  have : (dueL L now).length ≤ L.length := (List.takeWhile_sublist _).length_le
  unfold keysL
  rw [List.length_map]; omega
theorem count_one {key : Int} : ∀ {ys : List Int}, ys.Nodup → key ∈ ys → ys.count key = 1
  | [], _, h => by simp at h
  | z :: ys, hn, h => by
    rw [List.nodup_cons] at hn
    rw [List.count_cons]
    rcases List.mem_cons.1 h with rfl | h
    · rw [List.count_eq_zero_of_not_mem hn.1]; simp
    · have hz : z ≠ key := fun e => hn.1 (e ▸ h)
      rw [count_one hn.2 h]; simp [hz]
theorem count_snoc {ys : List Int} {k : Nat} {z : Int} (h : ys[k]? = some z) (key : Int) : (ys.take (k + 1)).count key = (ys.take k).count key + if z = key then 1 else 0 := by
  rw [take_snoc h, List.count_append]
  by_cases e : z = key
  · subst e; simp
  · simp [e]

end Go.Proofs.Ytkkajcakgihckaa
