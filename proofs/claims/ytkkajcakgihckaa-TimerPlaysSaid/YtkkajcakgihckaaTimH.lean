/- A timer's heap and its keys in order, in plain Lean. No program in sight. -/
import Derived.Test.YtkkajcakgihckaaHeapP
import Derived.Test.YtkkajcakgihckaaTimP
namespace Go.Proofs.Ytkkajcakgihckaa

/-- Not behind. -/
def Ke.le (a b : Ke) : Prop := ¬ b.ahead a
theorem Ke.le_tot (a b : Ke) : a.le b ∨ b.le a := by unfold Ke.le Ke.ahead; omega
theorem Ke.le_tr (a b c : Ke) (h1 : a.le b) (h2 : b.le c) : a.le c := by unfold Ke.le Ke.ahead at *; omega
theorem Ke.le_rf (a : Ke) : a.le a := by unfold Ke.le Ke.ahead; omega

/-- The heap's first is the first in order. -/
theorem heap_head {f : Nat → Ke} {n : Nat} {k : Ke} {m : List Ke} (h : Heap Ke.le f n) (hp : (lst f n).Perm (k :: m)) (hs : (k :: m).Pairwise Ke.ahead) : f 0 = k := by
  rw [List.pairwise_cons] at hs
  have hn : 0 < n := by have := hp.length_eq; rw [lst_length, List.length_cons] at this; omega
  have h0 : f 0 ∈ k :: m := hp.subset (mem_lst.2 ⟨0, hn, rfl⟩)
  obtain ⟨j, hj, hk⟩ := mem_lst.1 (hp.symm.subset (List.mem_cons_self (a := k) (l := m)))
  rcases List.mem_cons.1 h0 with e | h0
  · exact e
  · have h1 := h.root Ke.le_rf Ke.le_tr j hj
    rw [hk] at h1
    exact absurd (hs.1 _ h0) h1
/-- One went away: the rest are the list without it. -/
theorem perm_cancel {l L : List Ke} {x : Ke} (h : TiOk L) (hp : (l ++ [x]).Perm L) : l.Perm (cancelL L x.key) := by
  have ho : (l ++ [x]).Pairwise fun a b => a.key ≠ b.key := (hp.pairwise_iff (fun {a b} h => fun e => h e.symm)).2 h.one
  rw [List.pairwise_append] at ho
  have h1 := hp.filter (fun k => k.key != x.key)
  rw [List.filter_append, List.filter_eq_self.2 (fun k hk => by simpa using ho.2.2 k hk x (by simp))] at h1
  simpa [cancelL] using h1
theorem perm_pop {l m : List Ke} {k : Ke} (hp : (l ++ [k]).Perm (k :: m)) : l.Perm m :=
  (List.perm_append_comm.trans hp).cons_inv
/-- Remove's swap: the one at i goes to the end. -/
theorem lst_remove {f : Nat → Ke} {n i : Nat} (hi : i < n + 1) {L : List Ke} (hp : (lst f (n + 1)).Perm L) : (lst (swp f i n) n ++ [f i]).Perm L := by
  have := (swp_perm f hi (Nat.lt_succ_self n)).trans hp
  rwa [lst_succ, swp_j] at this
/-- One more at the end. -/
theorem lst_push {f g : Nat → Ke} {n : Nat} {L : List Ke} (hp : (lst f n).Perm L) (hg : ∀ k, k < n → g k = f k) : (lst g (n + 1)).Perm (insL L (g n)) := by
  rw [lst_succ, lst_eq hg]
  exact (List.perm_append_comm.trans (hp.cons (g n))).trans (insL_perm (g n) L).symm
/-- What is in order, and holds the same, is the list. -/
theorem sorted_is {l L : List Ke} (h : TiOk L) (hp : l.Perm L) (hs : l.Pairwise Ke.ahead) : l = L := srt_uniq hs h.srt hp
/-- Due, one by one. -/
theorem dueL_cons (k : Ke) (l : List Ke) (now : Int) : dueL (k :: l) now = if k.at_ ≤ now then k :: dueL l now else [] := by
  unfold dueL; rw [List.takeWhile_cons]; by_cases h : k.at_ ≤ now <;> simp [h]
theorem leftL_cons (k : Ke) (l : List Ke) (now : Int) : leftL (k :: l) now = if k.at_ ≤ now then leftL l now else k :: l := by
  unfold leftL; rw [List.dropWhile_cons]; by_cases h : k.at_ ≤ now <;> simp [h]
end Go.Proofs.Ytkkajcakgihckaa
