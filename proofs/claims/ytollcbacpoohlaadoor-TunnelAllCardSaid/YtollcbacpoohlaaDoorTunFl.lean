/- The bytes of a tunnel, in plain Lean: what was fed, what of it was moved, what of it was drained. -/
import Derived.Test.YtollcbacpoohlaaDoorTunX
namespace Go.Proofs.YtollcbacpoohlaaDoor
open Go.RowKit

/-- F is all that was fed into a way. -/
structure Fl (y : Wy) (F : List UInt8) : Prop where
  len : F.length = y.f
  o : y.o = (F.take y.s).drop y.d
  i : y.i = F.drop y.s ∨ y.i = []

section
variable {cap : Nat} {y : Wy} {F : List UInt8}
theorem Fl.zero : Fl Wy.zero [] := ⟨rfl, rfl, .inl rfl⟩
theorem Fl.grant (h : Fl y F) (n : Int) : Fl (y.grant n) F := by
  unfold Wy.grant; split
  · exact ⟨h.len, h.o, h.i⟩
  · exact h
theorem Fl.feed (h : Fl y F) (_hy : WyOk cap y) (hf : y.f = y.s + y.i.length) (t : List UInt8) : Fl (y.feed cap t) (F ++ t.take (y.n cap t)) := by
  have hl := h.len
  obtain ⟨h1, h2⟩ := y.n_le cap t
  have hi : y.i = F.drop y.s := by
    rcases h.i with hi | hi
    · exact hi
    · rw [hi]
      rw [hi, List.length_nil] at hf
      exact (List.drop_eq_nil_of_le (by omega)).symm
  refine ⟨?_, ?_, .inl ?_⟩
  · simp only [Wy.feed, List.length_append, List.length_take]; omega
  · simp only [Wy.feed]
    rw [List.take_append_of_le_length (by omega)]; exact h.o
  · simp only [Wy.feed]
    rw [List.drop_append_of_le_length (by omega), ← hi]
theorem Fl.move (h : Fl y F) (hy : WyOk cap y) (n : Nat) : Fl (y.move cap n) F := by
  have hl := h.len
  have hf := hy.f
  have hd := hy.d
  obtain ⟨h1, h2, h3, h4⟩ := y.k_le cap n
  rcases h.i with hi | hi
  · refine ⟨h.len, ?_, .inl ?_⟩
    · simp only [Wy.move]
      rw [h.o, hi, List.take_add, List.drop_append_of_le_length (by rw [List.length_take]; omega)]
    · simp only [Wy.move]
      rw [hi, List.drop_drop]
  · have hk : y.k cap n = 0 := by rw [hi] at h3; simpa using h3
    refine ⟨h.len, ?_, .inr ?_⟩
    · simp only [Wy.move, hk, hi]; simpa using h.o
    · simp only [Wy.move, hk, hi]; rfl
theorem Fl.drain (h : Fl y F) (hy : WyOk cap y) (n : Int) : Fl (y.drain n) F ∧ F.take (y.drain n).d = F.take y.d ++ y.o.take n.toNat := by
  have hl := h.len
  have hf := hy.f
  have hd := hy.d
  have hol : y.o.length = y.s - y.d := by omega
  refine ⟨⟨h.len, ?_, h.i⟩, ?_⟩
  · simp only [Wy.drain, List.length_take]
    rw [h.o, List.drop_drop]
    rcases Nat.le_total n.toNat y.o.length with hn | hn
    · rw [← h.o, Nat.min_eq_left hn]
    · rw [← h.o, Nat.min_eq_right hn, List.drop_eq_nil_of_le (by rw [List.length_take]; omega), List.drop_eq_nil_of_le (by rw [List.length_take]; omega)]
  · simp only [Wy.drain, List.length_take]
    rw [List.take_add]
    congr 1
    rw [h.o]
    rw [← h.o, hol]
    rw [h.o, List.drop_take, List.take_take]
theorem Fl.clr (h : Fl y F) : Fl y.clr F := ⟨h.len, h.o, .inr rfl⟩
end

def Fat (F : List UInt8 × List UInt8) (side : Int) : List UInt8 := if side = 1 then F.2 else F.1
def Fset (F : List UInt8 × List UInt8) (side : Int) (X : List UInt8) : List UInt8 × List UInt8 := if side = 1 then (F.1, X) else (X, F.2)
structure Ord (t : Tu) (F : List UInt8 × List UInt8) : Prop where
  a : Fl t.a F.1
  b : Fl t.b F.2
section
variable {cap : Nat} {t : Tu} {F : List UInt8 × List UInt8}
theorem Ord.at_ (h : Ord t F) (side : Int) : Fl (t.at_ side) (Fat F side) := by
  unfold Tu.at_ Fat; split
  · exact h.b
  · exact h.a
theorem Ord.set (h : Ord t F) (side : Int) {y : Wy} {X : List UInt8} (hy : Fl y X) : Ord (t.set side y) (Fset F side X) := by
  unfold Tu.set Fset; split
  · exact ⟨h.a, hy⟩
  · exact ⟨hy, h.b⟩
theorem Fset_at (F : List UInt8 × List UInt8) (side : Int) : Fset F side (Fat F side) = F := by
  unfold Fset Fat; split <;> rfl
theorem Fat_set (F : List UInt8 × List UInt8) (side : Int) (X : List UInt8) : Fat (Fset F side X) side = X := by
  unfold Fset Fat; split <;> rfl
theorem at_set (t : Tu) (side : Int) (y : Wy) : (t.set side y).at_ side = y := by
  unfold Tu.set Tu.at_; split <;> rfl
theorem set_d {t : Tu} {side : Int} {y : Wy} (hy : y.d = (t.at_ side).d) : (t.set side y).a.d = t.a.d ∧ (t.set side y).b.d = t.b.d := by
  unfold Tu.at_ at hy
  unfold Tu.set
  split
  · rename_i hs; rw [if_pos hs] at hy; exact ⟨rfl, hy⟩
  · rename_i hs; rw [if_neg hs] at hy; exact ⟨hy, rfl⟩
theorem at_d {t t' : Tu} (h : t'.a.d = t.a.d ∧ t'.b.d = t.b.d) (side : Int) : (t'.at_ side).d = (t.at_ side).d := by
  unfold Tu.at_; split
  · exact h.2
  · exact h.1

/-- What a call does to the bytes. -/
theorem act_flow (h : Ord t F) (ha : WyOk cap t.a) (hb : WyOk cap t.b) (ho : TuOk t) (x : Op1) {n : Nat} {q : List UInt8} {r : Int} {t' : Tu} (hact : t.act cap x = ((n, q, r), t')) :
    ∃ F', Ord t' F' ∧ (r ≠ 0 ∨ sideB x.side = false → F' = F ∧ t'.a.d = t.a.d ∧ t'.b.d = t.b.d) ∧
    (r = 0 → sideB x.side = true → (x.kind = 2 → n ≤ x.s.size ∧ q = [] ∧ F' = Fset F x.side (Fat F x.side ++ x.s.data.toList.take n)) ∧ (x.kind ≠ 2 → F' = F) ∧
      (Fat F' x.side).take (t'.at_ x.side).d = (Fat F x.side).take (t.at_ x.side).d ++ q ∧ (t'.at_ (1 - x.side)).d = (t.at_ (1 - x.side)).d ∧ (x.kind = 2 ∨ x.kind = 4 ∨ q = [])) := by
  have hw : WyOk cap (t.at_ x.side) := by unfold Tu.at_; split <;> assumption
  -- a call that keeps F and the counts
  have same : ∀ t', Ord t' F → t'.a.d = t.a.d → t'.b.d = t.b.d → q = [] → x.kind ≠ 2 → ∃ F', Ord t' F' ∧ (r ≠ 0 ∨ sideB x.side = false → F' = F ∧ t'.a.d = t.a.d ∧ t'.b.d = t.b.d) ∧
      (r = 0 → sideB x.side = true → (x.kind = 2 → n ≤ x.s.size ∧ q = [] ∧ F' = Fset F x.side (Fat F x.side ++ x.s.data.toList.take n)) ∧ (x.kind ≠ 2 → F' = F) ∧
        (Fat F' x.side).take (t'.at_ x.side).d = (Fat F x.side).take (t.at_ x.side).d ++ q ∧ (t'.at_ (1 - x.side)).d = (t.at_ (1 - x.side)).d ∧ (x.kind = 2 ∨ x.kind = 4 ∨ q = [])) := fun t' h1 h2 h3 hq hk =>
    ⟨F, h1, fun _ => ⟨rfl, h2, h3⟩, fun _ _ => ⟨fun hk' => absurd hk' hk, fun _ => rfl, by rw [at_d ⟨h2, h3⟩, hq, List.append_nil], at_d ⟨h2, h3⟩ _, .inr (.inr hq)⟩⟩
  unfold Tu.act at hact
  split at hact
  · rename_i hk
    obtain ⟨⟨-, rfl, -⟩, ht⟩ := act_eq hact
    refine same t' ?_ ?_ ?_ rfl (by omega)
    all_goals
      subst ht
      unfold Tu.event
      cases nxt t.st x.n with
      | none => first | exact h | rfl
      | some u => dsimp only; split <;> first | exact ⟨h.a.clr, h.b.clr⟩ | exact ⟨h.a, h.b⟩ | rfl
  split at hact
  · rename_i hk
    obtain ⟨⟨-, rfl, -⟩, ht⟩ := act_eq hact
    refine same t' ?_ ?_ ?_ rfl (by omega)
    · subst ht
      unfold Tu.grant; split
      · have := h.set x.side ((h.at_ x.side).grant x.n)
        rwa [Fset_at] at this
      · exact h
    all_goals
      subst ht
      unfold Tu.grant; split
      · have hd : ((t.at_ x.side).grant x.n).d = (t.at_ x.side).d := by unfold Wy.grant; split <;> rfl
        first | exact (set_d hd).1 | exact (set_d hd).2
      · rfl
  split at hact
  · rename_i hk
    obtain ⟨⟨hn, rfl, hr⟩, ht⟩ := act_eq hact
    unfold Tu.feed at hn hr ht
    cases hs : sideB x.side with
    | false =>
      rw [hs, if_neg (by simp)] at ht
      subst ht
      exact ⟨F, h, fun _ => ⟨rfl, rfl, rfl⟩, fun _ hs' => absurd hs' (by simp)⟩
    | true =>
      rw [hs, if_pos rfl] at hn hr ht
      cases hop : openB t.st x.side with
      | false =>
        rw [hop, if_neg (by simp)] at hr ht
        subst ht
        exact ⟨F, h, fun _ => ⟨rfl, rfl, rfl⟩, fun h0 _ => absurd (hr.trans h0) (by simp)⟩
      | true =>
        rw [hop, if_pos rfl] at hn hr ht
        dsimp only at hn hr ht
        have hst := openB_le hop
        have hf : (t.at_ x.side).f = (t.at_ x.side).s + (t.at_ x.side).i.length := (ho.at_ x.side).resolve_right (fun hm => by omega)
        have hfl := (h.at_ x.side).feed hw hf x.s.data.toList
        rw [hn] at hfl
        subst ht
        refine ⟨Fset F x.side (Fat F x.side ++ x.s.data.toList.take n), h.set x.side hfl, fun hc => ?_, fun _ _ => ⟨fun _ => ⟨?_, rfl, rfl⟩, fun hk' => absurd hk hk', ?_, ?_, .inl hk⟩⟩
        · rcases hc with hc | hc
          · exact absurd hr.symm hc
          · cases hc
        · have := ((t.at_ x.side).n_le cap x.s.data.toList).1
          rw [hn] at this
          simpa using this
        · rw [Fat_set, at_set, List.append_nil]
          have : ((t.at_ x.side).feed cap x.s.data.toList).d = (t.at_ x.side).d := rfl
          rw [this, List.take_append_of_le_length]
          have h1 := hw.d
          have h2 := hw.f
          have h3 := (h.at_ x.side).len
          omega
        · have hs' : x.side = 0 ∨ x.side = 1 := by simpa [sideB] using hs
          rw [set_other hs']
  split at hact
  · rename_i hk
    obtain ⟨⟨-, rfl, -⟩, ht⟩ := act_eq hact
    refine same t' ?_ ?_ ?_ rfl (by omega)
    · subst ht
      unfold Tu.move; split
      · split
        · split
          · exact h
          · have := h.set x.side ((h.at_ x.side).move hw x.n.toNat)
            rwa [Fset_at] at this
        · exact h
      · exact h
    all_goals
      subst ht
      unfold Tu.move; split
      · split
        · split
          · rfl
          · have hd : ((t.at_ x.side).move cap x.n.toNat).d = (t.at_ x.side).d := rfl
            first | exact (set_d hd).1 | exact (set_d hd).2
        · rfl
      · rfl
  split at hact
  · rename_i hk
    obtain ⟨⟨-, hq, hr⟩, ht⟩ := act_eq hact
    unfold Tu.drain at hq hr ht
    cases hs : sideB x.side with
    | false =>
      rw [hs, if_neg (by simp)] at ht
      subst ht
      exact ⟨F, h, fun _ => ⟨rfl, rfl, rfl⟩, fun _ hs' => absurd hs' (by simp)⟩
    | true =>
      rw [hs, if_pos rfl] at hq hr ht
      dsimp only at hq hr ht
      obtain ⟨hfl, htk⟩ := (h.at_ x.side).drain hw x.n
      subst ht hq
      have hset := h.set x.side hfl
      rw [Fset_at] at hset
      refine ⟨F, hset, fun hc => ?_, fun _ _ => ⟨fun hk' => absurd hk' (by omega), fun _ => rfl, ?_, ?_, .inr (.inl hk)⟩⟩
      · rcases hc with hc | hc
        · exact absurd hr.symm hc
        · cases hc
      · rw [at_set]; exact htk
      · have hs' : x.side = 0 ∨ x.side = 1 := by simpa [sideB] using hs
        rw [set_other hs']
  split at hact
  · rename_i hk
    obtain ⟨⟨-, rfl, -⟩, ht⟩ := act_eq hact
    subst ht
    exact same _ ⟨h.a.clr, h.b.clr⟩ rfl rfl rfl (by omega)
  · obtain ⟨⟨-, rfl, -⟩, ht⟩ := act_eq hact
    subst ht
    exact same _ h rfl rfl rfl (by omega)
end
end Go.Proofs.YtollcbacpoohlaaDoor
