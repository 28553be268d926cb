/- Kept listings, in plain Lean: a page asked twice; two pages are one of both. -/
import Derived.Test.YtbcppmcjbcnlbaaDoorSnapWB
namespace Go.Proofs.YtbcppmcjbcnlbaaDoor

/-- Page either finds its listing, or answers an error and nothing else. -/
theorem page_good {p : Po} {cursor f n now : Int} {q : Po} {page : List ByteArray} {nx err : Int} (h : pageA p cursor f n now = (q, page, nx, err)) :
    (q = po0 ∧ page = [] ∧ nx = 0 ∧ ¬ err = 0) ∨ (∃ l1 l2 s, p.l = l1 ++ s :: l2 ∧ Met p now ∧ s.cur = cursor ∧ now - s.used < 1000 ∧ 0 ≤ f ∧ f ≤ s.items.length ∧ 1 ≤ n ∧ n ≤ 10 ∧ q = ⟨l1 ++ l2 ++ [{ s with used := now }], p.next⟩ ∧ page = pgL s.items f n ∧ nx = pgN s.items f n ∧ err = 0) := by
  unfold pageA at h
  split at h
  · rename_i hc
    split at h
    · cases h; exact .inl ⟨rfl, rfl, rfl, by decide⟩
    · rename_i hn
      split at h
      · cases h; exact .inl ⟨rfl, rfl, rfl, by decide⟩
      · rename_i i hi
        obtain ⟨hl, hf⟩ := findN_lt hi
        simp only [hitB, freshB, Bool.and_eq_true, beq_iff_eq, decide_eq_true_eq] at hf
        rw [List.getElem?_eq_getElem hl] at h
        cases h
        refine .inr ⟨p.l.take i, p.l.drop (i + 1), p.l[i], ?_, (check_iff _ _).1 hc, hf.1.1.1, hf.1.1.2, hf.1.2, hf.2, by omega, by omega, ?_, rfl, rfl, rfl⟩
        · rw [List.getElem_cons_drop, List.take_append_drop]
        · rw [List.eraseIdx_eq_take_drop_succ]
  · cases h; exact .inl ⟨rfl, rfl, rfl, by decide⟩
theorem Met.mid {l1 l2 : List Sn} {s : Sn} {next now : Int} (h : Met ⟨l1 ++ s :: l2, next⟩ now) : Met ⟨l1 ++ l2 ++ [{ s with used := now }], next⟩ now := by
  have := h.page (i := l1.length) (s := s) (by simp)
  dsimp only at this
  rwa [erase_mid] at this
theorem pgL_eq (xs : List ByteArray) (f n : Nat) (h : f ≤ xs.length) : pgL xs f n = (xs.drop f).take n := by
  unfold pgL pageE
  rw [Int.toNat_natCast]
  split
  · rw [show ((f : Int) + (n : Int) - (f : Int)).toNat = n by omega]
  · rw [show ((xs.length : Int) - (f : Int)).toNat = (xs.drop f).length by rw [List.length_drop]; omega, List.take_length, List.take_of_length_le (by rw [List.length_drop]; omega)]
theorem pgN_eq (xs : List ByteArray) (f n : Nat) : pgN xs f n = if f + n < xs.length then ((f + n : Nat) : Int) else -1 := by
  unfold pgN pageE
  repeat' split
  all_goals omega
theorem pg_all (xs : List ByteArray) (f a b : Nat) (h : f ≤ xs.length) (hn : pgN xs f a < 0) : pgN xs f a = -1 ∧ pgN xs f (a + b : Nat) = -1 ∧ pgL xs f (a + b : Nat) = pgL xs f a := by
  rw [pgN_eq] at hn ⊢
  have h1 : xs.length ≤ f + a := by
    apply Classical.byContradiction
    intro hc
    rw [if_pos (by omega)] at hn
    omega
  rw [pgN_eq, pgL_eq _ _ _ h, pgL_eq _ _ _ h, if_neg (by omega), if_neg (by omega), List.take_of_length_le (by rw [List.length_drop]; omega), List.take_of_length_le (by rw [List.length_drop]; omega)]
  exact ⟨rfl, rfl, rfl⟩
theorem pg_both (xs : List ByteArray) (f a b : Nat) (h : f ≤ xs.length) (hn : ¬ pgN xs f a < 0) : f + a ≤ xs.length ∧ pgN xs f a = ((f + a : Nat) : Int) ∧ pgN xs f (a + b : Nat) = pgN xs ((f + a : Nat) : Int) b ∧ pgL xs f (a + b : Nat) = pgL xs f a ++ pgL xs ((f + a : Nat) : Int) b := by
  rw [pgN_eq] at hn ⊢
  have h1 : f + a < xs.length := by
    apply Classical.byContradiction
    intro hc
    rw [if_neg hc] at hn
    omega
  rw [pgN_eq, pgN_eq, pgL_eq _ _ _ h, pgL_eq _ _ _ h, pgL_eq _ _ _ (by omega), if_pos h1, List.take_add, List.drop_drop, show f + (a + b) = f + a + b by omega]
  exact ⟨by omega, rfl, rfl, rfl⟩

/-- All that the law SnapsTwice asks, of a page that is there. -/
structure TwiceI (c f now a b : Int) (q : Po) (l : List ByteArray) (nx : Int) : Prop where
  again : pageA q c f a now = (q, l, nx, 0)
  split : (nx < 0 ∧ nx = -1 ∧ pageA q c f (a + b) now = (q, l, -1, 0)) ∨ (¬ nx < 0 ∧ ∃ m k, pageA q c f (a + b) now = (q, l ++ m, k, 0) ∧ pageA q c nx b now = (q, m, k, 0))
theorem twice_cases {p : Po} {c f now : Int} {a b : Nat} (ha : 1 ≤ a ∧ a ≤ 5) (hb : 1 ≤ b ∧ b ≤ 5) {q : Po} {l : List ByteArray} {nx err : Int} (h : pageA p c f a now = (q, l, nx, err)) :
    (q = po0 ∧ l = [] ∧ nx = 0 ∧ ¬ err = 0) ∨ (err = 0 ∧ TwiceI c f now a b q l nx) := by
  rcases page_good h with h0 | ⟨l1, l2, s, hl, hm, rfl, hu, h0, h1, n1, n2, rfl, rfl, rfl, rfl⟩
  · exact .inl h0
  · refine .inr ⟨rfl, ?_⟩
    obtain ⟨pl, next⟩ := p
    dsimp only at hl
    subst hl
    obtain ⟨F, rfl⟩ := Int.eq_ofNat_of_zero_le h0
    have hF : F ≤ s.items.length := by omega
    have hm2 := hm.mid
    have hpage := fun (g n : Int) (g0 : 0 ≤ g) (g1 : g ≤ s.items.length) (m1 : 1 ≤ n) (m2 : n ≤ 10) => page_end (s := { s with used := now }) (l := l1 ++ l2) (f := g) (n := n) hm2 (by dsimp only; omega) g0 (by dsimp only; omega) m1 m2
    dsimp only at hpage ⊢
    refine ⟨hpage _ _ (by omega) (by omega) (by omega) (by omega), ?_⟩
    by_cases hn : pgN s.items F a < 0
    · obtain ⟨e1, e2, e3⟩ := pg_all s.items F a b hF hn
      refine .inl ⟨hn, e1, ?_⟩
      rw [hpage _ _ (by omega) (by omega) (by omega) (by omega), show (a : Int) + (b : Int) = ((a + b : Nat) : Int) from rfl, e2, e3]
    · obtain ⟨e0, e1, e2, e3⟩ := pg_both s.items F a b hF hn
      refine .inr ⟨hn, pgL s.items ((F + a : Nat) : Int) b, pgN s.items ((F + a : Nat) : Int) b, ?_, ?_⟩
      · rw [hpage _ _ (by omega) (by omega) (by omega) (by omega), show (a : Int) + (b : Int) = ((a + b : Nat) : Int) from rfl, e2, e3]
      · rw [e1, hpage _ _ (by omega) (by omega) (by omega) (by omega)]
end Go.Proofs.YtbcppmcjbcnlbaaDoor
