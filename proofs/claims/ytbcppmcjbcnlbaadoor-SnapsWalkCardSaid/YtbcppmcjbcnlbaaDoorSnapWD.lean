/- Kept listings, in plain Lean: page by page all items come, whatever is pinned between. -/
import Derived.Test.YtbcppmcjbcnlbaaDoorSnapWC
namespace Go.Proofs.YtbcppmcjbcnlbaaDoor

/-- The law SnapsWalk between its rounds: k pages of n are taken. -/
structure WalkI (c : Int) (ys : List ByteArray) (n : Nat) (k : Nat) (now : Int) (q : Po) (at_ : Int) (all : List ByteArray) : Prop where
  met : Met q now
  len : ys.length ≤ 64
  bound : now ≤ 1000000000 + 999 * (k : Int)
  last : ∃ pre, q.l = pre ++ [(⟨c, ys, now⟩ : Sn)]
  is : (at_ = -1 ∧ all = ys) ∨ (at_ = ((k * n : Nat) : Int) ∧ k * n ≤ ys.length ∧ all = ys.take (k * n))
/-- Between a round's Pin and its Page: ours is there. -/
structure MidI (c : Int) (ys : List ByteArray) (k : Nat) (now now2 : Int) (q : Po) : Prop where
  met : Met q now2
  bound : now2 ≤ 1000000000 + 999 * ((k : Int) + 1)
  old : now2 - now ≤ 999
  there : ∃ l1 l2, q.l = l1 ++ (⟨c, ys, now⟩ : Sn) :: l2
theorem walk_first {p : Po} {now : Int} {ys : List ByteArray} {n : Nat} (h : Met p now) (hx : itemsB ys = true) (hn : p.next < 1000000000000) (hb : now ≤ 1000000000) : WalkI p.next ys n 0 now ⟨pinL p.l now ++ [⟨p.next, ys, now⟩], p.next + 1⟩ 0 [] :=
  ⟨h.pin ys hx hn, by simp only [itemsB, Bool.and_eq_true, decide_eq_true_eq] at hx; exact hx.1, by omega, ⟨_, rfl⟩, .inr ⟨by simp, by simp, by simp⟩⟩
theorem WalkI.wait {c : Int} {ys : List ByteArray} {n k : Nat} {now d at_ : Int} {q : Po} {all : List ByteArray} (h : WalkI c ys n k now q at_ all) (hk : k < 70) (h0 : 0 ≤ d) (h1 : d ≤ 999) : MidI c ys k now (now + d) q := by
  have hb := h.bound
  obtain ⟨pre, hl⟩ := h.last
  exact ⟨h.met.later (by omega) (by omega), by omega, by omega, pre, [], hl⟩
theorem MidI.pin {c : Int} {ys : List ByteArray} {k : Nat} {now now2 : Int} {q : Po} (h : MidI c ys k now now2 q) (hlast : ∃ pre, q.l = pre ++ [(⟨c, ys, now⟩ : Sn)]) (os : List ByteArray) (ho : itemsB os = true) (hn : q.next < 1000000000000) : MidI c ys k now now2 ⟨pinL q.l now2 ++ [⟨q.next, os, now2⟩], q.next + 1⟩ := by
  obtain ⟨pre, hl⟩ := hlast
  refine ⟨h.met.pin os ho hn, h.bound, h.old, ?_⟩
  have hlen := h.met.ok.len
  have hold := h.old
  have hf : q.l.filter (freshB now2) = pre.filter (freshB now2) ++ [(⟨c, ys, now⟩ : Sn)] := by
    rw [hl, List.filter_append, List.filter_cons_of_pos (show freshB now2 (⟨c, ys, now⟩ : Sn) = true by simp only [freshB, decide_eq_true_eq]; omega), List.filter_nil]
  dsimp only
  unfold pinL
  rw [hf]
  split
  · rename_i h3
    rw [List.length_append, List.length_singleton] at h3
    cases hp : pre.filter (freshB now2) with
    | nil => rw [hp, List.length_nil] at h3; omega
    | cons x pre' => exact ⟨pre', [⟨q.next, os, now2⟩], by simp⟩
  · exact ⟨pre.filter (freshB now2), [⟨q.next, os, now2⟩], by simp⟩
theorem MidI.page {c : Int} {ys : List ByteArray} {n k : Nat} {now now2 at_ : Int} {q q0 : Po} {all : List ByteArray} (h : MidI c ys k now now2 q) (hw : WalkI c ys n k now q0 at_ all) (hn : 1 ≤ n ∧ n ≤ 10) (h0 : 0 ≤ at_) :
    ∃ r pg nx, pageA q c at_ n now2 = (r, pg, nx, 0) ∧ pg.length ≤ n ∧ WalkI c ys n (k + 1) now2 r nx (all ++ pg) := by
  obtain ⟨l1, l2, hl⟩ := h.there
  obtain ⟨l, next⟩ := q
  dsimp only at hl
  subst hl
  have hb := h.bound
  have hold := h.old
  rcases hw.is with ⟨rfl, _⟩ | ⟨rfl, hle, rfl⟩
  · omega
  · have hp := page_at (f := ((k * n : Nat) : Int)) (n := n) h.met (by dsimp only; omega) (by omega) (by dsimp only; omega) (by omega) (by omega)
    dsimp only at hp
    refine ⟨_, _, _, hp, ?_, h.met.mid, hw.len, by omega, ⟨l1 ++ l2, rfl⟩, ?_⟩
    · rw [pgL_eq _ _ _ hle, List.length_take]; omega
    · rw [pgN_eq, pgL_eq _ _ _ hle, ← List.take_add, Nat.succ_mul]
      by_cases hlt : k * n + n < ys.length
      · rw [if_pos hlt]
        exact .inr ⟨rfl, by omega, rfl⟩
      · rw [if_neg hlt]
        exact .inl ⟨rfl, List.take_of_length_le (by omega)⟩
theorem WalkI.more {c : Int} {ys : List ByteArray} {n k : Nat} {now at_ : Int} {q : Po} {all : List ByteArray} (h : WalkI c ys n k now q at_ all) (hn : 1 ≤ n) : (at_ = -1 ∧ all = ys) ∨ (0 ≤ at_ ∧ k < 70) := by
  have hl := h.len
  rcases h.is with h1 | ⟨rfl, h2, _⟩
  · exact .inl h1
  · have : k * 1 ≤ k * n := Nat.mul_le_mul_left k hn
    exact .inr ⟨by omega, by omega⟩
end Go.Proofs.YtbcppmcjbcnlbaaDoor
