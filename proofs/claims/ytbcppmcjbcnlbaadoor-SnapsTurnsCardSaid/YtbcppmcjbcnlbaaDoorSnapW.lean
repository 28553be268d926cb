/- Kept listings, in plain Lean: a right pool stays right. -/
import Derived.Test.YtbcppmcjbcnlbaaDoorSnapP
namespace Go.Proofs.YtbcppmcjbcnlbaaDoor

/-- A right pool, in words. -/
structure Ok (p : Po) : Prop where
  n1 : 1 ≤ p.next
  n2 : p.next ≤ 1000000000000
  len : p.l.length ≤ 3
  cur : ∀ s ∈ p.l, 1 ≤ s.cur ∧ s.cur < p.next
  ap : p.l.Pairwise fun s t => s.cur ≠ t.cur
  us : ∀ s ∈ p.l, 0 ≤ s.used ∧ s.used ≤ 1000000000000
  so : p.l.Pairwise fun s t => s.used ≤ t.used
  wh : ∀ s ∈ p.l, itemsB s.items = true
theorem apart_iff {next : Int} : ∀ (l : List Sn) (met : List Int), apartB next met l = true ↔ (∀ s ∈ l, (1 ≤ s.cur ∧ s.cur < next) ∧ s.cur ∉ met) ∧ l.Pairwise fun s t => s.cur ≠ t.cur
  | [], met => by simp [apartB]
  | x :: l, met => by
    rw [apartB, Bool.and_eq_true, apart_iff l, List.pairwise_cons]
    simp only [curB, Bool.and_eq_true, Bool.not_eq_true', decide_eq_true_eq, List.mem_append, List.mem_singleton, not_or, List.forall_mem_cons, List.contains_eq_mem, decide_eq_false_iff_not]
    constructor
    · rintro ⟨⟨⟨h1, h2⟩, h3⟩, h4, h5⟩
      exact ⟨⟨⟨⟨h2, h3⟩, h1⟩, fun s hs => ⟨(h4 s hs).1, (h4 s hs).2.1⟩⟩, fun s hs h => (h4 s hs).2.2 h.symm, h5⟩
    · rintro ⟨⟨⟨⟨h2, h3⟩, h1⟩, h4⟩, h6, h5⟩
      exact ⟨⟨⟨h1, h2⟩, h3⟩, fun s hs => ⟨(h4 s hs).1, (h4 s hs).2, fun h => h6 s hs h.symm⟩, h5⟩
theorem sorted_iff : ∀ (l : List Sn) (last : Int), sortedB last l = true ↔ (∀ s ∈ l, last ≤ s.used ∧ s.used ≤ 1000000000000) ∧ l.Pairwise fun s t => s.used ≤ t.used
  | [], last => by simp [sortedB]
  | x :: l, last => by
    rw [sortedB, Bool.and_eq_true, sorted_iff l, List.pairwise_cons]
    simp only [usedB, Bool.and_eq_true, decide_eq_true_eq, List.forall_mem_cons]
    constructor
    · rintro ⟨⟨h1, h2⟩, h3, h4⟩
      exact ⟨⟨⟨h1, h2⟩, fun s hs => ⟨by have := (h3 s hs).1; omega, (h3 s hs).2⟩⟩, fun s hs => (h3 s hs).1, h4⟩
    · rintro ⟨⟨⟨h1, h2⟩, h3⟩, h5, h4⟩
      exact ⟨⟨h1, h2⟩, fun s hs => ⟨h5 s hs, (h3 s hs).2⟩, h4⟩
theorem right_iff (p : Po) : rightP p = true ↔ Ok p := by
  simp only [rightP, countedB, wholeB, Bool.and_eq_true, decide_eq_true_eq, apart_iff, sorted_iff, List.all_eq_true]
  constructor
  · rintro ⟨⟨⟨⟨⟨h1, h2⟩, h3⟩, h4, h5⟩, h6, h7⟩, h8⟩
    exact ⟨h1, h2, h3, fun s hs => (h4 s hs).1, h5, h6, h7, h8⟩
  · intro h
    exact ⟨⟨⟨⟨⟨h.n1, h.n2⟩, h.len⟩, fun s hs => ⟨h.cur s hs, by simp⟩, h.ap⟩, h.us, h.so⟩, h.wh⟩
theorem last_le {l : List Sn} {now : Int} (hu : ∀ s ∈ l, 0 ≤ s.used) (hs : l.Pairwise fun s t => s.used ≤ t.used) : lastU l ≤ now ↔ 0 ≤ now ∧ ∀ s ∈ l, s.used ≤ now := by
  rcases List.eq_nil_or_concat l with rfl | ⟨m, x, rfl⟩
  · simp [lastU]
  · rw [List.concat_eq_append] at hu hs ⊢
    have h1 : lastU (m ++ [x]) = x.used := by simp [lastU]
    rw [h1]
    rw [List.pairwise_append] at hs
    constructor
    · intro h
      refine ⟨by have := hu x (by simp); omega, fun s hm => ?_⟩
      rw [List.mem_append, List.mem_singleton] at hm
      rcases hm with hm | rfl
      · have := hs.2.2 s hm x (by simp); omega
      · exact h
    · rintro ⟨_, h⟩
      exact h x (by simp)
/-- The door of Pin and Page: a right pool, a time not ahead of it. -/
structure Met (p : Po) (now : Int) : Prop where
  ok : Ok p
  t0 : 0 ≤ now
  t1 : now ≤ 1000000000000
  le : ∀ s ∈ p.l, s.used ≤ now
theorem check_iff (p : Po) (now : Int) : checkB p now = true ↔ Met p now := by
  simp only [checkB, Bool.and_eq_true, decide_eq_true_eq, right_iff]
  constructor
  · rintro ⟨⟨h1, h2⟩, h3⟩
    rw [last_le (fun s hs => (h1.us s hs).1) h1.so] at h2
    exact ⟨h1, h2.1, h3, h2.2⟩
  · intro h
    exact ⟨⟨h.ok, (last_le (fun s hs => (h.ok.us s hs).1) h.ok.so).2 ⟨h.t0, h.le⟩⟩, h.t1⟩
theorem pinL_sub (l : List Sn) (now : Int) : (pinL l now).Sublist l := by
  unfold pinL
  split
  · exact (List.drop_sublist _ _).trans List.filter_sublist
  · exact List.filter_sublist
theorem pinL_len {l : List Sn} (now : Int) (h : l.length ≤ 3) : (pinL l now).length ≤ 2 := by
  have := List.length_filter_le (freshB now) l
  unfold pinL
  split
  · rw [List.length_drop]; omega
  · omega
/-- Less of a right pool and a new last one. -/
theorem Met.add {p : Po} {now : Int} (h : Met p now) {m : List Sn} (hm : m.Sublist p.l) (hl : m.length ≤ 2) (s : Sn) (next : Int) (hn : p.next ≤ next) (hn2 : next ≤ 1000000000000) (hc : 1 ≤ s.cur ∧ s.cur < next) (hne : ∀ t ∈ m, t.cur ≠ s.cur) (hu : s.used = now) (hw : itemsB s.items = true) :
    Met ⟨m ++ [s], next⟩ now := by
  have hin : ∀ t ∈ m, t ∈ p.l := fun t ht => hm.subset ht
  have hmem : ∀ t ∈ m ++ [s], t ∈ p.l ∨ t = s := fun t ht => by
    rw [List.mem_append, List.mem_singleton] at ht
    exact ht.imp (hin t) id
  refine ⟨⟨by have := h.ok.n1; dsimp only; omega, hn2, by simp; omega, fun t ht => ?_, ?_, fun t ht => ?_, ?_, fun t ht => ?_⟩, h.t0, h.t1, fun t ht => ?_⟩
  · rcases hmem t ht with ht | rfl
    · have := h.ok.cur t ht; dsimp only; omega
    · exact hc
  · refine List.pairwise_append.2 ⟨h.ok.ap.sublist hm, by simp, fun t ht u hu => ?_⟩
    obtain rfl := List.mem_singleton.1 hu
    exact hne t ht
  · rcases hmem t ht with ht | rfl
    · exact h.ok.us t ht
    · have := h.t0; have := h.t1; omega
  · refine List.pairwise_append.2 ⟨h.ok.so.sublist hm, by simp, fun t ht u hu' => ?_⟩
    obtain rfl := List.mem_singleton.1 hu'
    rw [hu]
    exact h.le t (hin t ht)
  · rcases hmem t ht with ht | rfl
    · exact h.ok.wh t ht
    · exact hw
  · rcases hmem t ht with ht | rfl
    · exact h.le t ht
    · omega
theorem Met.later {p : Po} {now now' : Int} (h : Met p now) (h1 : now ≤ now') (h2 : now' ≤ 1000000000000) : Met p now' := ⟨h.ok, by have := h.t0; omega, h2, fun s hs => by have := h.le s hs; omega⟩
/-- Pin of a right pool is right. -/
theorem Met.pin {p : Po} {now : Int} (h : Met p now) (xs : List ByteArray) (hx : itemsB xs = true) (hn : p.next < 1000000000000) : Met ⟨pinL p.l now ++ [⟨p.next, xs, now⟩], p.next + 1⟩ now :=
  h.add (pinL_sub _ _) (pinL_len _ h.ok.len) ⟨p.next, xs, now⟩ (p.next + 1) (by omega) (by omega) ⟨h.ok.n1, by dsimp only; omega⟩ (fun t ht => by have := h.ok.cur t ((pinL_sub _ _).subset ht); dsimp only; omega) rfl hx
/-- Page of a right pool is right. -/
theorem Met.page {p : Po} {now : Int} (h : Met p now) {i : Nat} {s : Sn} (hs : p.l[i]? = some s) : Met ⟨p.l.eraseIdx i ++ [{ s with used := now }], p.next⟩ now := by
  obtain ⟨hi, rfl⟩ := List.getElem?_eq_some_iff.1 hs
  refine h.add (List.eraseIdx_sublist _ _) (by rw [List.length_eraseIdx_of_lt hi]; have := h.ok.len; omega) { p.l[i] with used := now } p.next (Int.le_refl _) h.ok.n2 (h.ok.cur p.l[i] (List.getElem_mem hi)) (fun t ht => ?_) rfl (show itemsB p.l[i].items = true from h.ok.wh _ (List.getElem_mem hi))
  obtain ⟨j, hj, hne, rfl⟩ := List.mem_eraseIdx_iff_getElem.1 ht
  have hp := List.pairwise_iff_getElem.1 h.ok.ap
  show p.l[j].cur ≠ p.l[i].cur
  rcases Nat.lt_or_gt_of_ne hne with hlt | hlt
  · exact hp j i hj hi hlt
  · exact fun he => hp i j hi hj hlt he.symm
theorem pinA_met {p : Po} {now : Int} (h : Met p now) {xs : List ByteArray} (hx : itemsB xs = true) (hn : p.next < 1000000000000) : pinA p xs now = (⟨pinL p.l now ++ [⟨p.next, xs, now⟩], p.next + 1⟩, p.next, 0) := by
  unfold pinA
  rw [(check_iff p now).2 h, hx]
  simp [hn]
end Go.Proofs.YtbcppmcjbcnlbaaDoor
