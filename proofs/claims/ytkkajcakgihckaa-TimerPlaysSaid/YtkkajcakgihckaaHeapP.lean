/- Binary heaps in plain Lean: what a step up, a step down keep; a push, a pop, a removal, a turned element. No program in sight. -/
import Derived.Test.YtkkajcakgihckaaBase
namespace Go.Proofs.Ytkkajcakgihckaa

section
variable {α : Type}

def par (k : Nat) : Nat := (k - 1) / 2
/-- Two places swapped. -/
def swp (f : Nat → α) (i j : Nat) : Nat → α := fun k => if k = i then f j else if k = j then f i else f k
theorem swp_i (f : Nat → α) (i j : Nat) : swp f i j i = f j := if_pos rfl
theorem swp_j (f : Nat → α) (i j : Nat) : swp f i j j = f i := by
  unfold swp
  by_cases h : j = i
  · subst h; rw [if_pos rfl]
  · rw [if_neg h, if_pos rfl]
theorem swp_o (f : Nat → α) {i j k : Nat} (h1 : k ≠ i) (h2 : k ≠ j) : swp f i j k = f k := by unfold swp; rw [if_neg h1, if_neg h2]

/-- The first n stand as a heap. -/
def Heap (le : α → α → Prop) (f : Nat → α) (n : Nat) : Prop := ∀ k, 0 < k → k < n → le (f (par k)) (f k)
/-- A heap but for j, that may stand too deep. -/
structure UpI (le : α → α → Prop) (f : Nat → α) (n j : Nat) : Prop where
  lt : j < n
  rest : ∀ k, 0 < k → k < n → k ≠ j → le (f (par k)) (f k)
  kids : ∀ k, 0 < k → k < n → par k = j → 0 < j → le (f (par j)) (f k)
/-- A heap but for i, that may stand too high; where b is false it may stand too deep as well. -/
structure DnI (le : α → α → Prop) (f : Nat → α) (n i : Nat) (b : Bool) : Prop where
  rest : ∀ k, 0 < k → k < n → par k ≠ i → (k ≠ i ∨ b = true) → le (f (par k)) (f k)
  kids : ∀ k, 0 < k → k < n → par k = i → 0 < i → le (f (par i)) (f k)

theorem par_lt {k : Nat} (h : 0 < k) : par k < k := by unfold par; omega

variable {le : α → α → Prop} {f g : Nat → α} {n : Nat}

theorem UpI.top (h : UpI le f n 0) : Heap le f n := fun k h1 h2 => h.rest k h1 h2 (by omega)
theorem UpI.stop {j : Nat} (h : UpI le f n j) (hj : le (f (par j)) (f j)) : Heap le f n := fun k h1 h2 => by
  by_cases e : k = j
  · subst e; exact hj
  · exact h.rest k h1 h2 e
theorem UpI.step (tot : ∀ a b, le a b ∨ le b a) (tr : ∀ a b c, le a b → le b c → le a c) {j : Nat} (h : UpI le f n j) (h0 : 0 < j) (hj : ¬ le (f (par j)) (f j)) : UpI le (swp f (par j) j) n (par j) := by
  have hp := par_lt h0
  have hji : le (f j) (f (par j)) := (tot _ _).resolve_left hj
  refine ⟨by have := h.lt; omega, fun k h1 h2 h3 => ?_, fun k h1 h2 h3 h4 => ?_⟩
  · have hk := par_lt h1
    by_cases e : k = j
    · subst e; rw [swp_i, swp_j]; exact hji
    · rw [swp_o f h3 e]
      by_cases e1 : par k = j
      · rw [e1, swp_j]; exact h.kids k h1 h2 e1 h0
      · by_cases e2 : par k = par j
        · rw [e2, swp_i]; exact tr _ _ _ hji (e2 ▸ h.rest k h1 h2 e)
        · rw [swp_o f e2 e1]; exact h.rest k h1 h2 e
  · have hk := par_lt h1
    have hpp := par_lt h4
    have hpi : le (f (par (par j))) (f (par j)) := h.rest _ h4 (by have := h.lt; omega) (by omega)
    rw [swp_o f (show par (par j) ≠ par j by omega) (show par (par j) ≠ j by omega)]
    by_cases e : k = j
    · subst e; rw [swp_j]; exact hpi
    · rw [swp_o f (by omega) e]
      exact tr _ _ _ hpi (h3 ▸ h.rest k h1 h2 e)

/-- None below it is less: it stands. -/
theorem DnI.stop {i : Nat} {b : Bool} (h : DnI le f n i b) (hi : ∀ k, 0 < k → k < n → par k = i → le (f i) (f k)) (hn : i < n) : UpI le f n i :=
  ⟨hn, fun k h1 h2 h3 => by
    by_cases e : par k = i
    · rw [e]; exact hi k h1 h2 e
    · exact h.rest k h1 h2 e (.inl h3), h.kids⟩
theorem DnI.heap {i : Nat} (h : DnI le f n i true) (hi : ∀ k, 0 < k → k < n → par k = i → le (f i) (f k)) : Heap le f n := fun k h1 h2 => by
  by_cases e : par k = i
  · rw [e]; exact hi k h1 h2 e
  · exact h.rest k h1 h2 e (.inr rfl)
theorem DnI.step (tot : ∀ a b, le a b ∨ le b a) {i j : Nat} {b : Bool} (h : DnI le f n i b) (hj0 : 0 < j) (hjn : j < n) (hpj : par j = i) (hmin : ∀ k, 0 < k → k < n → par k = i → le (f j) (f k)) (hlt : ¬ le (f i) (f j)) : DnI le (swp f i j) n j true := by
  have hp := par_lt hj0
  have hji : le (f j) (f i) := (tot _ _).resolve_left hlt
  refine ⟨fun k h1 h2 h3 _ => ?_, fun k h1 h2 h3 _ => ?_⟩
  · have hk := par_lt h1
    by_cases e : k = i
    · subst e
      rw [swp_i, swp_o f (by omega) h3]
      exact h.kids j hj0 hjn hpj h1
    · by_cases e1 : par k = i
      · rw [e1, swp_i]
        by_cases e2 : k = j
        · subst e2; rw [swp_j]; exact hji
        · rw [swp_o f e e2]; exact hmin k h1 h2 e1
      · have e2 : k ≠ j := fun e2 => e1 (e2 ▸ hpj)
        rw [swp_o f e e2, swp_o f e1 h3]
        exact h.rest k h1 h2 e1 (.inl e)
  · have hk := par_lt h1
    rw [hpj, swp_i, swp_o f (by omega) (by omega), ← h3]
    exact h.rest k h1 h2 (by omega) (.inl (by omega))

theorem Heap.root (rf : ∀ a, le a a) (tr : ∀ a b c, le a b → le b c → le a c) (h : Heap le f n) : ∀ k, k < n → le (f 0) (f k) := by
  intro k
  induction k using Nat.strongRecOn with
  | ind k ih =>
    intro hk
    rcases Nat.eq_zero_or_pos k with rfl | h0
    · exact rf _
    · exact tr _ _ _ (ih _ (par_lt h0) (by have := par_lt h0; omega)) (h k h0 hk)
/-- One more at the end. -/
theorem Heap.push (h : Heap le f n) (hg : ∀ k, k < n → g k = f k) : UpI le g (n + 1) n :=
  ⟨by omega, fun k h1 h2 h3 => by
    have := par_lt h1
    rw [hg _ (by omega), hg _ (by omega)]
    exact h k h1 (by omega), fun k h1 h2 h3 h4 => by have := par_lt h1; omega⟩
/-- The first went away: the last stands in its place. -/
theorem Heap.pop (h : Heap le f (n + 1)) : DnI le (swp f 0 n) n 0 true :=
  ⟨fun k h1 h2 h3 _ => by
    rw [swp_o f h3 (by have := par_lt h1; omega), swp_o f (by omega) (by omega)]
    exact h k h1 (by omega), fun k _ _ _ h4 => by omega⟩
/-- One is turned. -/
theorem Heap.turn (tr : ∀ a b c, le a b → le b c → le a c) {m i : Nat} (h : Heap le f m) (hm : n ≤ m) (hi : i < m) (hg : ∀ k, k < n → k ≠ i → g k = f k) : DnI le g n i false := by
  refine ⟨fun k h1 h2 h3 h4 => ?_, fun k h1 h2 h3 h4 => ?_⟩
  · have hk := par_lt h1
    rw [hg k h2 (h4.resolve_right (by simp)), hg _ (by omega) h3]
    exact h k h1 (by omega)
  · have hk := par_lt h1
    have hp := par_lt h4
    rw [hg k h2 (by omega), hg (par i) (by omega) (by omega)]
    exact tr _ _ _ (h i h4 hi) (h3 ▸ h k h1 (by omega))

/-- The first n, as a list. -/
def lst (f : Nat → α) (n : Nat) : List α := (List.range n).map f
theorem lst_length (f : Nat → α) (n : Nat) : (lst f n).length = n := by simp [lst]
theorem lst_succ (f : Nat → α) (n : Nat) : lst f (n + 1) = lst f n ++ [f n] := by simp [lst, List.range_succ]
theorem lst_get (f : Nat → α) {n k : Nat} (h : k < n) : (lst f n)[k]? = some (f k) := by simp [lst, h]
theorem lst_eq {f g : Nat → α} {n : Nat} (h : ∀ k, k < n → g k = f k) : lst g n = lst f n := by
  unfold lst; apply List.map_congr_left; intro k hk; exact h k (List.mem_range.1 hk)
theorem mem_lst {f : Nat → α} {n : Nat} {x : α} : x ∈ lst f n ↔ ∃ k, k < n ∧ f k = x := by simp [lst]
theorem swp_comp (f : Nat → α) (i j k : Nat) : swp f i j k = f (swp id i j k) := by
  unfold swp; repeat' split
  all_goals rfl
theorem swp_idx_inv (i j k : Nat) : swp id i j (swp id i j k) = k := by
  unfold swp; simp only [id]
  repeat' split
  all_goals omega
theorem swp_idx_perm {i j n : Nat} (hi : i < n) (hj : j < n) : ((List.range n).map (swp id i j)).Perm (List.range n) := by
  have hlt : ∀ k, k < n → swp id i j k < n := fun k hk => by unfold swp; simp only [id]; repeat' split
                                                             all_goals omega
  refine (List.perm_ext_iff_of_nodup ?_ List.nodup_range).2 fun a => ?_
  · unfold List.Nodup
    rw [List.pairwise_map]
    exact List.nodup_range.imp fun {a b} h e => h (by have := congrArg (swp id i j) e; rwa [swp_idx_inv, swp_idx_inv] at this)
  · rw [List.mem_map, List.mem_range]
    exact ⟨fun ⟨k, hk, e⟩ => e ▸ hlt k (List.mem_range.1 hk), fun h => ⟨swp id i j a, List.mem_range.2 (hlt a h), swp_idx_inv i j a⟩⟩
theorem swp_perm (f : Nat → α) {i j n : Nat} (hi : i < n) (hj : j < n) : (lst (swp f i j) n).Perm (lst f n) := by
  have := (swp_idx_perm hi hj).map f
  rw [List.map_map] at this
  unfold lst
  rwa [show swp f i j = f ∘ swp id i j from funext fun k => swp_comp f i j k]
end
end Go.Proofs.Ytkkajcakgihckaa
