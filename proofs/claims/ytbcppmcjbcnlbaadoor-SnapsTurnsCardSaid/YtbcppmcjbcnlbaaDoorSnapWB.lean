/- Kept listings, in plain Lean: a page of a listing that is there; three newer ones push one out. -/
import Derived.Test.YtbcppmcjbcnlbaaDoorSnapW
namespace Go.Proofs.YtbcppmcjbcnlbaaDoor

theorem findN_mid {f : Sn → Bool} : ∀ {l1 : List Sn} (l2 : List Sn) (s : Sn), (∀ t ∈ l1, f t = false) → f s = true → findN f (l1 ++ s :: l2) = some l1.length
  | [], l2, s, _, hs => by simp [findN, hs]
  | t :: l1, l2, s, h, hs => by
    rw [List.cons_append, findN, h t (by simp), findN_mid l2 s (fun u hu => h u (by simp [hu])) hs]
    rfl
theorem findN_not {f : Sn → Bool} : ∀ {l : List Sn}, (∀ t ∈ l, f t = false) → findN f l = none
  | [], _ => rfl
  | t :: l, h => by rw [findN, h t (by simp), findN_not (fun u hu => h u (by simp [hu]))]; rfl
theorem erase_mid (l1 l2 : List Sn) (s : Sn) : (l1 ++ s :: l2).eraseIdx l1.length = l1 ++ l2 := by
  rw [List.eraseIdx_append_of_length_le (Nat.le_refl _), Nat.sub_self]; rfl
/-- What a page of a listing is, and what is behind it. -/
def pgL (xs : List ByteArray) (f n : Int) : List ByteArray := (xs.drop f.toNat).take (pageE xs.length f n - f).toNat
def pgN (xs : List ByteArray) (f n : Int) : Int := if pageE xs.length f n = xs.length then -1 else pageE xs.length f n
/-- A listing that is there, and was asked for less than a thousand ticks ago, is paged. -/
theorem page_at {l1 l2 : List Sn} {s : Sn} {next now f n : Int} (h : Met ⟨l1 ++ s :: l2, next⟩ now) (hf : now - s.used < 1000) (h0 : 0 ≤ f) (h1 : f ≤ s.items.length) (n1 : 1 ≤ n) (n2 : n ≤ 10) :
    pageA ⟨l1 ++ s :: l2, next⟩ s.cur f n now = (⟨l1 ++ l2 ++ [{ s with used := now }], next⟩, pgL s.items f n, pgN s.items f n, 0) := by
  have hap := (List.pairwise_append.1 h.ok.ap).2.2
  unfold pageA
  rw [if_pos ((check_iff _ _).2 h), if_neg (by omega), findN_mid l2 s (fun t ht => by simp [hitB, hap t ht s (by simp)]) (by simp [hitB, freshB, hf, h0, h1])]
  simp only [List.getElem?_append_right (Nat.le_refl _), Nat.sub_self, List.getElem?_cons_zero, erase_mid]
  rfl
theorem page_end {l : List Sn} {s : Sn} {next now f n : Int} (h : Met ⟨l ++ [s], next⟩ now) (hf : now - s.used < 1000) (h0 : 0 ≤ f) (h1 : f ≤ s.items.length) (n1 : 1 ≤ n) (n2 : n ≤ 10) :
    pageA ⟨l ++ [s], next⟩ s.cur f n now = (⟨l ++ [{ s with used := now }], next⟩, pgL s.items f n, pgN s.items f n, 0) := by
  rw [page_at h hf h0 h1 n1 n2, List.append_nil]
theorem page_gone {p : Po} {cur now f n : Int} (h : Met p now) (n1 : 1 ≤ n) (n2 : n ≤ 10) (hg : ∀ t ∈ p.l, t.cur = cur → 1000 ≤ now - t.used) : pageA p cur f n now = (po0, [], 0, 161) := by
  unfold pageA
  rw [if_pos ((check_iff _ _).2 h), if_neg (by omega), findN_not (fun t ht => by
    by_cases hc : t.cur = cur
    · have := hg t ht hc
      have h' : freshB now t = false := by simp only [freshB, decide_eq_false_iff_not]; omega
      simp [hitB, h']
    · simp [hitB, hc])]
theorem pgL_zero (xs : List ByteArray) (n : Nat) : pgL xs 0 n = xs.take n := by
  unfold pgL pageE
  rw [show (0 : Int).toNat = 0 from rfl, List.drop_zero, Int.zero_add, Int.sub_zero]
  split
  · rw [Int.toNat_natCast]
  · rw [Int.toNat_natCast, List.take_length, List.take_of_length_le (by omega)]
theorem pgN_zero (xs : List ByteArray) (n : Nat) : pgN xs 0 n = if xs.length ≤ n then -1 else (n : Int) := by
  unfold pgN pageE
  rw [Int.zero_add]
  repeat' split
  all_goals omega

/-- The law SnapsOld between its rounds: ours, and k newer ones behind it. -/
structure OldI (c now : Int) (xs : List ByteArray) (k : Nat) (q : Po) : Prop where
  met : Met q now
  it : itemsB xs = true
  c1 : c < q.next
  nx : q.next ≤ 1000000001 + k
  sh : k ≤ 3
  is : (k < 3 ∧ ∃ pre t, q.l = pre ++ (⟨c, xs, now⟩ : Sn) :: t ∧ t.length = k ∧ ∀ u ∈ t, u.used = now) ∨ (k = 3 ∧ ∀ u ∈ q.l, u.cur ≠ c)
theorem old_first {p : Po} {now : Int} {xs : List ByteArray} (h : Met p now) (hx : itemsB xs = true) (hn : p.next ≤ 1000000000) : OldI p.next now xs 0 ⟨pinL p.l now ++ [⟨p.next, xs, now⟩], p.next + 1⟩ :=
  ⟨h.pin xs hx (by omega), hx, by dsimp only; omega, by dsimp only; omega, by omega, .inl ⟨by omega, _, [], rfl, rfl, by simp⟩⟩
theorem fresh_now {now : Int} {u : Sn} (h : u.used = now) : freshB now u = true := by simp [freshB, h]
theorem old_step {c now : Int} {xs : List ByteArray} {k : Nat} {q : Po} (h : OldI c now xs k q) (hk : k < 3) :
    (∃ r pg nx, pageA q c 0 1 now = (r, pg, nx, 0)) ∧ pinA q xs now = (⟨pinL q.l now ++ [⟨q.next, xs, now⟩], q.next + 1⟩, q.next, 0) ∧ OldI c now xs (k + 1) ⟨pinL q.l now ++ [⟨q.next, xs, now⟩], q.next + 1⟩ := by
  obtain ⟨l, next⟩ := q
  have hnx := h.nx
  dsimp only at hnx
  refine ⟨?_, pinA_met h.met h.it (by dsimp only; omega), h.met.pin xs h.it (by dsimp only; omega), h.it, by have := h.c1; dsimp only at *; omega, by dsimp only; omega, by omega, ?_⟩
  · rcases h.is with ⟨_, pre, t, hl, _, _⟩ | ⟨h3, _⟩
    · obtain rfl : l = pre ++ (⟨c, xs, now⟩ : Sn) :: t := hl
      exact ⟨_, _, _, page_at h.met (by dsimp only; omega) (by omega) (by dsimp only; omega) (by omega) (by omega)⟩
    · omega
  · rcases h.is with ⟨_, pre, t, hl, ht, hu⟩ | ⟨h3, _⟩
    · obtain rfl : l = pre ++ (⟨c, xs, now⟩ : Sn) :: t := hl
      have hlen := h.met.ok.len
      have hf : (pre ++ (⟨c, xs, now⟩ : Sn) :: t).filter (freshB now) = pre.filter (freshB now) ++ (⟨c, xs, now⟩ : Sn) :: t := by
        rw [List.filter_append, List.filter_cons_of_pos (show freshB now (⟨c, xs, now⟩ : Sn) = true from fresh_now rfl), List.filter_eq_self.2 (fun u hu' => fresh_now (hu u hu'))]
      have hpl := List.length_filter_le (freshB now) pre
      have hap := h.met.ok.ap
      dsimp only at hlen hap ⊢
      rw [List.length_append, List.length_cons] at hlen
      have hpin : pinL (pre ++ (⟨c, xs, now⟩ : Sn) :: t) now = if (pre.filter (freshB now)).length + 1 + k = 3 then (pre.filter (freshB now) ++ (⟨c, xs, now⟩ : Sn) :: t).drop 1 else pre.filter (freshB now) ++ (⟨c, xs, now⟩ : Sn) :: t := by
        unfold pinL
        rw [hf, List.length_append, List.length_cons, ht]
        simp only [show ∀ a : Nat, a + (k + 1) = a + 1 + k from fun a => by omega]
      rw [hpin]
      by_cases hk2 : k + 1 < 3
      · refine .inl ⟨hk2, ?_⟩
        have huu : ∀ v ∈ t ++ [(⟨next, xs, now⟩ : Sn)], v.used = now := fun v hv => by
          rw [List.mem_append, List.mem_singleton] at hv
          rcases hv with hv | rfl
          · exact hu v hv
          · rfl
        split
        · obtain ⟨x, pre', hp⟩ : ∃ x pre', pre.filter (freshB now) = x :: pre' := by
            cases hp : pre.filter (freshB now) with
            | nil => rename_i h3; rw [hp, List.length_nil] at h3; omega
            | cons x pre' => exact ⟨x, pre', rfl⟩
          rw [hp, List.cons_append, List.drop_one, List.tail_cons]
          exact ⟨pre', t ++ [⟨next, xs, now⟩], by simp, by simp [ht], huu⟩
        · exact ⟨pre.filter (freshB now), t ++ [⟨next, xs, now⟩], by simp, by simp [ht], huu⟩
      · refine .inr ⟨by omega, ?_⟩
        obtain rfl : pre = [] := by cases pre with | nil => rfl | cons x p => rw [List.length_cons] at hlen; omega
        rw [List.filter_nil, List.length_nil, if_pos (by omega), List.nil_append, List.drop_one, List.tail_cons]
        intro u hu'
        rw [List.mem_append, List.mem_singleton] at hu'
        have hap2 := (List.pairwise_cons.1 (show List.Pairwise (fun s t : Sn => s.cur ≠ t.cur) ((⟨c, xs, now⟩ : Sn) :: t) from hap)).1
        rcases hu' with hu' | rfl
        · exact fun e => hap2 u hu' e.symm
        · have := h.c1; dsimp only at this ⊢; omega
    · omega
end Go.Proofs.YtbcppmcjbcnlbaaDoor
