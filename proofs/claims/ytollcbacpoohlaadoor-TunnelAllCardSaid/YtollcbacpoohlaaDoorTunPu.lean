/- A direction pumped empty, in plain Lean: a grant, a move, a drain, again and again. -/
import Derived.Test.YtollcbacpoohlaaDoorTunFl
namespace Go.Proofs.YtollcbacpoohlaaDoor
open Go.RowKit

theorem grant_left {g s : Nat} (h : okC g s = true) (hs : s ≤ 2500) (y : Wy) (hg : y.g = g) (hys : y.s = s) : 100 ≤ (y.grant 100).g - (y.grant 100).s ∧ (y.grant 100).s = s := by
  obtain ⟨h1, h2, h3⟩ := okC_le h
  unfold Wy.grant
  split
  · exact ⟨by simp only [hg, hys]; omega, hys⟩
  · rename_i hne
    refine ⟨?_, hys⟩
    rw [hg, hys] at hne ⊢
    unfold grantA at hne
    rw [if_neg (by omega), if_neg (by omega)] at hne
    have hf : okC (g + (100 : Int).toNat) s = false := by
      cases hc : okC (g + (100 : Int).toNat) s with
      | false => rfl
      | true => rw [hc] at hne; exact absurd rfl hne
    have e : (100 : Int).toNat = 100 := rfl
    rw [e] at hf
    unfold okC at hf
    simp at hf
    omega

/-- One round of the pump. -/
def Wy.pump (cap : Nat) (y : Wy) : Wy := ((y.grant 100).move cap 100).drain 200
theorem pump_eq {cap : Nat} {y : Wy} (hy : WyOk cap y) (hs : y.s ≤ 2500) :
    (y.pump cap).i.length = y.i.length - min (min 100 y.i.length) (cap - y.o.length) ∧ (y.pump cap).o.length = y.o.length + min (min 100 y.i.length) (cap - y.o.length) - 200 ∧ (y.pump cap).f = y.f := by
  obtain ⟨h1, h2⟩ := grant_left hy.c hs y rfl rfl
  obtain ⟨e1, e2, e3⟩ := Wy.grant_keeps y 100
  have eo : (y.grant 100).o = y.o := by unfold Wy.grant; split <;> rfl
  have hk : (y.grant 100).k cap 100 = min (min 100 y.i.length) (cap - y.o.length) := by
    unfold Wy.k; rw [e1, eo]; omega
  refine ⟨?_, ?_, ?_⟩
  · simp only [Wy.pump, Wy.drain, Wy.move, List.length_drop, hk, e1]
  · simp only [Wy.pump, Wy.drain, Wy.move, List.length_drop, List.length_append, List.length_take, hk, e1, eo]
    have e : (200 : Int).toNat = 200 := rfl
    rw [e]; omega
  · simp only [Wy.pump, Wy.drain, Wy.move]; exact e2

/-- How far the pump is behind j rounds. -/
structure Pmp (cap j : Nat) (y : Wy) : Prop where
  ok : WyOk cap y
  f : y.f = y.s + y.i.length
  le : y.f ≤ 2500
  q : 1 ≤ j → y.o.length + 100 ≤ cap ∨ y.o.length = 0
  i : 1 ≤ j → y.i.length ≤ 2500 - 100 * (j - 1)
  o : 26 ≤ j → y.i.length = 0 ∧ y.o.length ≤ 2500 - 200 * (j - 26)
theorem Pmp.next {cap j : Nat} {y : Wy} (h : Pmp cap j y) : Pmp cap (j + 1) (y.pump cap) := by
  have hs : y.s ≤ 2500 := by have := h.f; have := h.le; omega
  obtain ⟨e1, e2, e3⟩ := pump_eq h.ok hs
  have hok : WyOk cap (y.pump cap) := ((h.ok.grant 100).move 100).drain 200
  have hi := h.ok.i
  have ho := h.ok.o
  have hf := h.f
  have hl := h.le
  have hd := h.ok.d
  have hd' := hok.d
  have hf1 := hok.f
  -- the count moved
  have hsum : (y.pump cap).s = y.s + min (min 100 y.i.length) (cap - y.o.length) := by
    obtain ⟨h1, h2⟩ := grant_left h.ok.c hs y rfl rfl
    obtain ⟨g1, g2, g3⟩ := Wy.grant_keeps y 100
    have eo : (y.grant 100).o = y.o := by unfold Wy.grant; split <;> rfl
    have hk : (y.grant 100).k cap 100 = min (min 100 y.i.length) (cap - y.o.length) := by
      unfold Wy.k; rw [g1, eo]; omega
    simp only [Wy.pump, Wy.drain, Wy.move, hk]
    rw [g3]
  refine ⟨hok, by omega, by omega, fun _ => by omega, fun hj => ?_, fun hj => ?_⟩
  · rcases Nat.eq_zero_or_pos j with h0 | h0
    · subst h0; omega
    · have hq := h.q h0
      have hii := h.i h0
      omega
  · rcases Nat.lt_or_ge j 26 with h0 | h0
    · have hq := h.q (by omega)
      have hii := h.i (by omega)
      omega
    · have hq := h.q (by omega)
      have hoo := h.o h0
      omega
theorem Pmp.done {cap : Nat} {y : Wy} (h : Pmp cap 60 y) : y.d = y.f := by
  have h1 := h.o (by omega)
  have h2 := h.f
  have h3 := h.ok.d
  omega

/-- The tunnel behind a round of the pump. -/
theorem pump_tu {cap : Nat} {t : Tu} {side : Int} (hs : sideB side = true) (hst : t.st = 2) {r1 : Int} {t1 : Tu} (h1 : t.grant side 100 = (r1, t1)) :
    ∃ k t2 q t3, t1.move cap side 100 = (k, 0, t2) ∧ t2.drain side 200 = (q, 0, t3) ∧ t3.st = 2 ∧ t3.at_ side = (t.at_ side).pump cap ∧ (t2.at_ side) = ((t.at_ side).grant 100).move cap 100 := by
  unfold Tu.grant at h1
  rw [hs, if_pos rfl] at h1
  have e1 : t1 = t.set side ((t.at_ side).grant 100) := (congrArg Prod.snd h1).symm
  have st1 : t1.st = 2 := by rw [e1]; unfold Tu.set; split <;> exact hst
  have a1 : t1.at_ side = (t.at_ side).grant 100 := by rw [e1, at_set]
  have hm : movesB t1.st = true := by rw [st1]; rfl
  have e2 : t1.move cap side 100 = ((t1.at_ side).k cap 100, 0, t1.set side ((t1.at_ side).move cap 100)) := by
    unfold Tu.move; rw [hs, if_pos rfl, hm, if_pos rfl, if_neg (by omega)]; rfl
  have st2 : (t1.set side ((t1.at_ side).move cap 100)).st = 2 := by unfold Tu.set; split <;> exact st1
  refine ⟨_, _, _, _, e2, by unfold Tu.drain; rw [hs, if_pos rfl], ?_, ?_, ?_⟩
  · have hset : ∀ (t : Tu) y, (t.set side y).st = t.st := fun t y => by unfold Tu.set; split <;> rfl
    rw [hset, hset]; exact st1
  · rw [at_set, at_set, a1]; rfl
  · rw [at_set, a1]
theorem Fl.pump {cap : Nat} {y : Wy} {F : List UInt8} (h : Fl y F) (hy : WyOk cap y) : Fl (y.pump cap) F ∧ F.take (y.pump cap).d = F.take y.d ++ (((y.grant 100).move cap 100).o.take 200) := by
  have h1 := h.grant 100
  have h2 := h1.move (hy.grant 100) 100
  obtain ⟨h3, h4⟩ := h2.drain ((hy.grant 100).move 100) 200
  refine ⟨h3, ?_⟩
  have ed : ((y.grant 100).move cap 100).d = y.d := by
    simp only [Wy.move]; unfold Wy.grant; split <;> rfl
  rw [ed] at h4
  exact h4
theorem act_st {cap : Nat} {t : Tu} {x : Op1} {n : Nat} {q : List UInt8} {r : Int} {t' : Tu} (h : t.act cap x = ((n, q, r), t')) (h0 : x.kind ≠ 0) (h5 : x.kind ≠ 5) : t'.st = t.st := by
  have hset : ∀ side y, (t.set side y).st = t.st := fun side y => by unfold Tu.set; split <;> rfl
  unfold Tu.act at h
  rw [if_neg h0] at h
  split at h
  · obtain ⟨_, ht⟩ := act_eq h; subst ht; unfold Tu.grant; split <;> first | exact hset _ _ | rfl
  split at h
  · obtain ⟨_, ht⟩ := act_eq h; subst ht; unfold Tu.feed; split
    · split <;> first | exact hset _ _ | rfl
    · rfl
  split at h
  · obtain ⟨_, ht⟩ := act_eq h; subst ht; unfold Tu.move; split
    · split
      · split <;> first | exact hset _ _ | rfl
      · rfl
    · rfl
  split at h
  · obtain ⟨_, ht⟩ := act_eq h; subst ht; unfold Tu.drain; split <;> first | exact hset _ _ | rfl
  obtain ⟨_, ht⟩ := act_eq h
  subst ht; rfl
/-- A call on the other side, or one that was refused. -/
theorem flow_other {t t' : Tu} {F F' : List UInt8 × List UInt8} {x : Op1} {side : Int} {n : Nat} {q : List UInt8} {r : Int} (hsd : side = 0 ∨ side = 1)
    (hs1 : r ≠ 0 ∨ sideB x.side = false → F' = F ∧ t'.a.d = t.a.d ∧ t'.b.d = t.b.d)
    (hs2 : r = 0 → sideB x.side = true → (x.kind = 2 → n ≤ x.s.size ∧ q = [] ∧ F' = Fset F x.side (Fat F x.side ++ x.s.data.toList.take n)) ∧ (x.kind ≠ 2 → F' = F) ∧
      (Fat F' x.side).take (t'.at_ x.side).d = (Fat F x.side).take (t.at_ x.side).d ++ q ∧ (t'.at_ (1 - x.side)).d = (t.at_ (1 - x.side)).d ∧ (x.kind = 2 ∨ x.kind = 4 ∨ q = []))
    (hc : x.side ≠ side ∨ r ≠ 0) : Fat F' side = Fat F side ∧ (t'.at_ side).d = (t.at_ side).d := by
  by_cases hr : r = 0
  · cases hb : sideB x.side with
    | false =>
      obtain ⟨rfl, h⟩ := hs1 (.inr hb)
      exact ⟨rfl, at_d h side⟩
    | true =>
      obtain ⟨h2, hn, _, ho, _⟩ := hs2 hr hb
      have hx : x.side = 0 ∨ x.side = 1 := by simpa [sideB] using hb
      have hne : x.side ≠ side := hc.resolve_right (by simpa using hr)
      have e : 1 - x.side = side := by omega
      rw [e] at ho
      refine ⟨?_, ho⟩
      by_cases hk : x.kind = 2
      · obtain ⟨_, _, hF⟩ := h2 hk
        rw [hF]
        unfold Fat Fset
        rcases hx with hx | hx <;> rcases hsd with hsd | hsd <;> rw [hx, hsd] <;> first | rfl | (exact absurd (hx.trans hsd.symm) hne)
      · rw [hn hk]
  · obtain ⟨rfl, h⟩ := hs1 (.inl hr)
    exact ⟨rfl, at_d h side⟩
end Go.Proofs.YtollcbacpoohlaaDoor
