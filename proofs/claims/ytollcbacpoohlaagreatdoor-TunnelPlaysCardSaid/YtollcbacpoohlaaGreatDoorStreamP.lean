/- The states of a tunnel, in plain Lean: no program in sight. -/
import Derived.Test.YtollcbacpoohlaaGreatDoorBase
namespace Go.Proofs.YtollcbacpoohlaaGreatDoor

/-- The state behind an event, if it may happen. -/
def nxt (s : Nat) (e : Int) : Option Nat :=
  if s = 0 ∧ e = 1 then some 1
  else if s = 1 ∧ e = 2 then some 2
  else if s = 1 ∧ e = 3 then some 6
  else if s = 2 ∧ e = 4 then some 3
  else if s = 2 ∧ e = 5 then some 4
  else if s = 3 ∧ e = 5 then some 5
  else if s = 4 ∧ e = 4 then some 5
  else if 1 ≤ s ∧ s ≤ 4 ∧ e = 6 then some 6
  else none

/-- The state behind some events, and how many happened. -/
def runS (s : Nat) : List Int → Nat × Nat
  | [] => (s, 0)
  | e :: l => match nxt s e with
    | none => (s, 0)
    | some t => ((runS t l).1, (runS t l).2 + 1)

theorem nxt_ev {s : Nat} {e : Int} {t : Nat} (h : nxt s e = some t) : 1 ≤ e ∧ e ≤ 6 := by
  unfold nxt at h
  repeat' split at h
  all_goals first | omega | cases h

theorem nxt_lt {s : Nat} {e : Int} {t : Nat} (h : nxt s e = some t) : t ≤ 6 ∧ 1 ≤ t := by
  unfold nxt at h
  repeat' split at h
  all_goals first | (cases h; omega) | cases h

theorem runS_le (l : List Int) : ∀ s, s ≤ 6 → (runS s l).1 ≤ 6 ∧ (runS s l).2 ≤ l.length := by
  induction l with
  | nil => intro s hs; exact ⟨hs, Nat.le_refl _⟩
  | cons e l ih =>
    intro s hs
    unfold runS
    split
    · exact ⟨hs, by simp⟩
    · rename_i t ht
      have := ih t (nxt_lt ht).1
      exact ⟨this.1, by simp; omega⟩

/-- What happens at the first k events, all of which happen. -/
theorem runS_step (s : Nat) (l : List Int) (k : Nat) (hk : k < l.length) (ha : (runS s (l.take k)).2 = k) :
    (∀ t, nxt (runS s (l.take k)).1 l[k] = some t → (runS s (l.take (k + 1))).1 = t ∧ (runS s (l.take (k + 1))).2 = k + 1) ∧
    (nxt (runS s (l.take k)).1 l[k] = none → runS s l = ((runS s (l.take k)).1, k)) := by
  induction l generalizing s k with
  | nil => simp at hk
  | cons e l ih =>
    match k with
    | 0 =>
      simp only [List.take_zero, runS, List.getElem_cons_zero]
      refine ⟨fun t ht => ?_, fun hn => ?_⟩
      · simp [List.take_succ_cons, runS, ht]
      · rw [hn]
    | k + 1 =>
      simp only [List.take_succ_cons, runS, List.getElem_cons_succ] at ha ⊢
      cases h : nxt s e with
      | none => rw [h] at ha; dsimp only at ha; omega
      | some t =>
        rw [h] at ha
        dsimp only at ha ⊢
        have := ih t k (by simpa using hk) (by simpa using ha)
        refine ⟨fun u hu => ?_, fun hn => ?_⟩
        · have h1 := this.1 u hu; exact ⟨h1.1, by omega⟩
        · rw [this.2 hn]

theorem runS_all (s : Nat) (l : List Int) (h : (runS s (l.take l.length)).2 = l.length) : runS s l = ((runS s (l.take l.length)).1, l.length) := by
  rw [List.take_length] at h ⊢
  exact Prod.ext rfl h

/-- In two parts. -/
theorem runS_parts (l : List Int) : ∀ (s a : Nat), a ≤ l.length →
    ((runS s (l.take a)).2 < a → runS s l = runS s (l.take a)) ∧
    (¬ (runS s (l.take a)).2 < a → runS s l = ((runS (runS s (l.take a)).1 (l.drop a)).1, a + (runS (runS s (l.take a)).1 (l.drop a)).2)) := by
  induction l with
  | nil => intro s a ha; have : a = 0 := by simpa using ha
           subst this; simp [runS]
  | cons e l ih =>
    intro s a ha
    match a with
    | 0 => simp [runS]
    | a + 1 =>
      simp only [List.take_succ_cons, List.drop_succ_cons, runS]
      cases h : nxt s e with
      | none => simp
      | some t =>
        have := ih t a (by simpa using ha)
        dsimp only
        refine ⟨fun h1 => ?_, fun h1 => ?_⟩
        · have h2 := this.1 (by omega); rw [h2]
        · have h2 := this.2 (by omega); rw [h2]; simp; omega

/-- By how many events one is reached from another one. -/
def dist (f t : Nat) : Option Nat :=
  match f, t with
  | 0, 0 => some 0 | 0, 1 => some 1 | 0, 2 => some 2 | 0, 3 => some 3 | 0, 4 => some 3 | 0, 5 => some 4 | 0, 6 => some 2
  | 1, 1 => some 0 | 1, 2 => some 1 | 1, 3 => some 2 | 1, 4 => some 2 | 1, 5 => some 3 | 1, 6 => some 1
  | 2, 2 => some 0 | 2, 3 => some 1 | 2, 4 => some 1 | 2, 5 => some 2 | 2, 6 => some 1
  | 3, 3 => some 0 | 3, 5 => some 1 | 3, 6 => some 1
  | 4, 4 => some 0 | 4, 5 => some 1 | 4, 6 => some 1
  | 5, 5 => some 0
  | 6, 6 => some 0
  | _, _ => none

theorem dist_self : ∀ f, f ≤ 6 → dist f f = some 0 := by decide
theorem dist_zero : ∀ f, f ≤ 6 → ∀ t, t ≤ 6 → (dist f t = some 0 ↔ t = f) := by decide
def distOk (f : Nat) (e : Nat) (t : Nat) : Bool := match nxt f (e : Int) with
  | none => true
  | some u => match dist u t with
    | none => true
    | some m => match dist f t with
      | none => false
      | some m' => decide (m' ≤ m + 1)
theorem distOk_all : ((List.range 7).all fun f => (List.range 7).all fun e => (List.range 7).all fun t => distOk f e t) = true := by decide +kernel
theorem dist_step_ev (f : Nat) (hf : f ≤ 6) (e : Nat) (he : e ≤ 6) (t : Nat) (ht : t ≤ 6) (u m : Nat) (hn : nxt f (e : Int) = some u) (hm : dist u t = some m) : ∃ m', dist f t = some m' ∧ m' ≤ m + 1 := by
  have h1 := List.all_eq_true.1 distOk_all f (List.mem_range.2 (by omega))
  have h2 := List.all_eq_true.1 h1 e (List.mem_range.2 (by omega))
  have h3 := List.all_eq_true.1 h2 t (List.mem_range.2 (by omega))
  unfold distOk at h3
  rw [hn] at h3
  dsimp only at h3
  rw [hm] at h3
  dsimp only at h3
  cases h : dist f t with
  | none => rw [h] at h3; simp at h3
  | some m' => rw [h] at h3; exact ⟨m', rfl, by simpa using h3⟩
theorem dist_le6 : ∀ f, f ≤ 6 → ∀ t, t ≤ 6 → ∀ m, dist f t = some m → m ≤ 6 := by
  intro f hf t ht m h
  have : ∀ f, f ≤ 6 → ∀ t, t ≤ 6 → (dist f t).getD 0 ≤ 6 := by decide
  have := this f hf t ht
  rw [h] at this; exact this
theorem dist_run (l : List Int) : ∀ f, f ≤ 6 → ∃ m, dist f (runS f l).1 = some m ∧ m ≤ (runS f l).2 := by
  induction l with
  | nil => intro f hf; exact ⟨0, dist_self f hf, Nat.le_refl _⟩
  | cons e l ih =>
    intro f hf
    unfold runS
    cases h : nxt f e with
    | none => exact ⟨0, dist_self f hf, Nat.le_refl _⟩
    | some u =>
      obtain ⟨m, hm, hl⟩ := ih u (nxt_lt h).1
      have he := nxt_ev h
      obtain ⟨e', rfl⟩ : ∃ e' : Nat, e = e' := ⟨e.toNat, by omega⟩
      have ht := (runS_le l u (nxt_lt h).1).1
      obtain ⟨m', h1, h2⟩ := dist_step_ev f hf e' (by omega) _ ht u m h hm
      exact ⟨m', h1, by simp; omega⟩
end Go.Proofs.YtollcbacpoohlaaGreatDoor
