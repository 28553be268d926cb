/- The search for the states that are reached, in plain Lean: no program in sight. -/
import Derived.Test.YtfgkfhchnnkonaaStreamP
namespace Go.Proofs.Ytfgkfhchnnkonaa

def farOf (far : List (Nat × Nat)) (s : Nat) : Option Nat := (far.find? (fun p => p.1 == s)).map (·.2)
theorem farOf_snoc_same {far : List (Nat × Nat)} {t d : Nat} (h : farOf far t = none) : farOf (far ++ [(t, d)]) t = some d := by
  unfold farOf at h ⊢
  rw [List.find?_append]
  cases hf : far.find? (fun p => p.1 == t) with
  | none => simp
  | some p => rw [hf] at h; cases h
theorem farOf_snoc_other {far : List (Nat × Nat)} {t d s : Nat} (h : s ≠ t) : farOf (far ++ [(t, d)]) s = farOf far s := by
  unfold farOf
  rw [List.find?_append]
  cases far.find? (fun p => p.1 == s) with
  | none => simp [Ne.symm h]
  | some p => simp

abbrev St := List (Nat × Nat) × List Nat
/-- What one event adds. -/
def ex1 (s : Nat) (st : St) (e : Nat) : St := match nxt s (e : Int) with
  | none => st
  | some t => if (farOf st.1 t).isSome then st else (st.1 ++ [(t, (farOf st.1 s).getD 0 + 1)], st.2 ++ [t])
/-- What the first j events add. -/
def exN (s : Nat) (st : St) : Nat → St
  | 0 => st
  | j + 1 => ex1 s (exN s st j) j
/-- Behind k states. -/
def bfs (f : Nat) : Nat → St
  | 0 => ([(f, 0)], [f])
  | k + 1 => match (bfs f k).2 with
    | [] => bfs f k
    | s :: r => exN s ((bfs f k).1, r) 7
/-- The states in their order. -/
def ordL (f : Nat) : List (Nat × Nat) := (List.range 7).filterMap fun k => match (bfs f k).2 with
  | [] => none
  | s :: _ => some (s, (farOf (bfs f k).1 s).getD 0)

/-- What holds at the k-th state, seen by its first. -/
def okAt (f k : Nat) : Bool := match (bfs f k).2 with
  | [] => decide (k = (ordL f).length)
  | s :: r => decide (k < (ordL f).length) && decide ((ordL f)[k]? = some (s, (farOf (bfs f k).1 s).getD 0)) && decide (s ≤ 6) && decide (r.length ≤ 7) && decide ((farOf (bfs f k).1 s).getD 0 ≤ 7)
theorem okAt_all : ((List.range 7).all fun f => (List.range ((ordL f).length + 1)).all fun k => okAt f k) = true := by decide +kernel
theorem len_all : ((List.range 7).all fun f => decide ((ordL f).length ≤ 7)) = true := by decide +kernel
theorem ordL_len (f : Nat) (hf : f ≤ 6) : (ordL f).length ≤ 7 := by
  have := List.all_eq_true.1 len_all f (List.mem_range.2 (by omega))
  simpa using this
theorem ok_at (f : Nat) (hf : f ≤ 6) (k : Nat) (hk : k ≤ (ordL f).length) : okAt f k = true :=
  List.all_eq_true.1 (List.all_eq_true.1 okAt_all f (List.mem_range.2 (by omega))) k (List.mem_range.2 (by omega))
theorem bfs_more (f : Nat) (hf : f ≤ 6) (k : Nat) (hk : k < (ordL f).length) : ∃ s r, (bfs f k).2 = s :: r ∧ (ordL f)[k]? = some (s, (farOf (bfs f k).1 s).getD 0) ∧ s ≤ 6 ∧ r.length ≤ 7 ∧ (farOf (bfs f k).1 s).getD 0 ≤ 7 ∧ bfs f (k + 1) = exN s ((bfs f k).1, r) 7 := by
  have h := ok_at f hf k (by omega)
  unfold okAt at h
  split at h
  · simp at h; omega
  · rename_i s r hsr
    simp at h
    refine ⟨s, r, hsr, by simpa using h.1.1.1.2, h.1.1.2, h.1.2, h.2, ?_⟩
    show (match (bfs f k).2 with | [] => bfs f k | s :: r => exN s ((bfs f k).1, r) 7) = _
    rw [hsr]
theorem bfs_done (f : Nat) (hf : f ≤ 6) : (bfs f (ordL f).length).2 = [] := by
  have h := ok_at f hf _ (Nat.le_refl _)
  unfold okAt at h
  split at h
  · assumption
  · simp at h

/-- Where a state is found, it is found at its distance. -/
def foundOk (f t : Nat) : Bool := decide (((ordL f).find? (fun p => p.1 == t)).map (·.2) = dist f t)
theorem foundOk_all : ((List.range 7).all fun f => (List.range 7).all fun t => foundOk f t) = true := by decide +kernel
theorem found (f t : Nat) (hf : f ≤ 6) (ht : t ≤ 6) : ((ordL f).find? (fun p => p.1 == t)).map (·.2) = dist f t := by
  have := List.all_eq_true.1 (List.all_eq_true.1 foundOk_all f (List.mem_range.2 (by omega))) t (List.mem_range.2 (by omega))
  unfold foundOk at this
  simpa using this
/-- The distance and the lists stay small. -/
def smallOk (f k j : Nat) : Bool := match (bfs f k).2 with
  | [] => true
  | s :: r => decide ((exN s ((bfs f k).1, r) j).2.length ≤ 7) && decide ((farOf (exN s ((bfs f k).1, r) j).1 s).getD 0 ≤ 7)
theorem smallOk_all : ((List.range 7).all fun f => (List.range 7).all fun k => (List.range 8).all fun j => smallOk f k j) = true := by decide +kernel
theorem small_at (f k j : Nat) (hf : f ≤ 6) (hk : k ≤ 6) (hj : j ≤ 7) {s : Nat} {r : List Nat} (hsr : (bfs f k).2 = s :: r) : (exN s ((bfs f k).1, r) j).2.length ≤ 7 ∧ (farOf (exN s ((bfs f k).1, r) j).1 s).getD 0 ≤ 7 := by
  have := List.all_eq_true.1 (List.all_eq_true.1 (List.all_eq_true.1 smallOk_all f (List.mem_range.2 (by omega))) k (List.mem_range.2 (by omega))) j (List.mem_range.2 (by omega))
  unfold smallOk at this
  rw [hsr] at this
  simpa using this
end Go.Proofs.Ytfgkfhchnnkonaa
