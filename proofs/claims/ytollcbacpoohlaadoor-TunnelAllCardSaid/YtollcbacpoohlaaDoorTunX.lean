/- What a tunnel's calls keep, in plain Lean: the other direction; what holds behind Stop; a loop's call. -/
import Derived.Test.YtollcbacpoohlaaDoorTunLaw
namespace Go.Proofs.YtollcbacpoohlaaDoor
open Go.RowKit

theorem set_other {t : Tu} {side : Int} (hs : side = 0 ∨ side = 1) (y : Wy) : (t.set side y).at_ (1 - side) = t.at_ (1 - side) := by
  rcases hs with rfl | rfl <;> rfl
theorem act_other (cap : Nat) (t : Tu) (side : Int) (hs : side = 0 ∨ side = 1) (x : Op1) (hx : x.side = side) (h1 : 1 ≤ x.kind) (h4 : x.kind ≤ 4) : ((t.act cap x).2).at_ (1 - side) = t.at_ (1 - side) := by
  subst hx
  unfold Tu.act
  rw [if_neg (by omega)]
  split
  · dsimp only; unfold Tu.grant; split
    · exact set_other hs _
    · rfl
  split
  · dsimp only; unfold Tu.feed; split
    · split
      · exact set_other hs _
      · rfl
    · rfl
  split
  · dsimp only; unfold Tu.move; split
    · split
      · split
        · rfl
        · exact set_other hs _
      · rfl
    · rfl
  rw [if_pos (by omega)]
  dsimp only; unfold Tu.drain; split
  · exact set_other hs _
  · rfl
theorem counts_other {t t' : Tu} {side : Int} (h : t'.at_ side = t.at_ side) : t'.counts side = t.counts side := by
  unfold Tu.counts; rw [h]

/-- What holds behind Stop. -/
structure Stopped (t0 t : Tu) : Prop where
  st : 5 ≤ t.st
  ai : t.a.i = []
  bi : t.b.i = []
  af : t.a.f = t0.a.f
  asp : t.a.s = t0.a.s
  bf : t.b.f = t0.b.f
  bsp : t.b.s = t0.b.s

theorem stop_stopped (t : Tu) : Stopped t t.stop.2 := by
  refine ⟨?_, rfl, rfl, rfl, rfl, rfl, rfl⟩
  simp only [Tu.stop, Tu.clr]
  split <;> omega
theorem Wy.grant_keeps (y : Wy) (n : Int) : (y.grant n).i = y.i ∧ (y.grant n).f = y.f ∧ (y.grant n).s = y.s := by
  unfold Wy.grant; split <;> exact ⟨rfl, rfl, rfl⟩
theorem Wy.move_nil {cap : Nat} {y : Wy} (h : y.i = []) (n : Nat) : (y.move cap n).i = [] ∧ (y.move cap n).f = y.f ∧ (y.move cap n).s = y.s := by
  have hk : y.k cap n = 0 := by have := (y.k_le cap n).2.2.1; rw [h] at this; simpa using this
  unfold Wy.move; rw [hk, h]; exact ⟨rfl, rfl, rfl⟩
theorem Stopped.set {t0 t : Tu} (h : Stopped t0 t) (side : Int) (y : Wy) (hy : y.i = (t.at_ side).i ∧ y.f = (t.at_ side).f ∧ y.s = (t.at_ side).s) : Stopped t0 (t.set side y) := by
  unfold Tu.at_ at hy
  unfold Tu.set
  split
  · rename_i hs
    rw [if_pos hs] at hy
    exact ⟨h.st, h.ai, hy.1.trans h.bi, h.af, h.asp, hy.2.1.trans h.bf, hy.2.2.trans h.bsp⟩
  · rename_i hs
    rw [if_neg hs] at hy
    exact ⟨h.st, hy.1.trans h.ai, h.bi, hy.2.1.trans h.af, hy.2.2.trans h.asp, h.bf, h.bsp⟩
theorem Stopped.nil {t0 t : Tu} (h : Stopped t0 t) (side : Int) : (t.at_ side).i = [] := by
  unfold Tu.at_; split
  · exact h.bi
  · exact h.ai
theorem Stopped.act {t0 t : Tu} (h : Stopped t0 t) (cap : Nat) (x : Op1) : Stopped t0 (t.act cap x).2 := by
  unfold Tu.act
  split
  · dsimp only; unfold Tu.event
    cases hx : nxt t.st x.n with
    | none => exact h
    | some u => exact absurd (nxt_from hx) (by have := h.st; omega)
  split
  · dsimp only; unfold Tu.grant; split
    · exact h.set _ _ (Wy.grant_keeps _ _)
    · exact h
  split
  · dsimp only; unfold Tu.feed; split
    · split
      · rename_i ho
        exact absurd (openB_le ho) (by have := h.st; omega)
      · exact h
    · exact h
  split
  · dsimp only; unfold Tu.move; split
    · split
      · split
        · exact h
        · have hm := Wy.move_nil (cap := cap) (h.nil x.side) x.n.toNat
          exact h.set _ _ ⟨by rw [hm.1, h.nil x.side], hm.2.1, hm.2.2⟩
      · exact h
    · exact h
  split
  · dsimp only; unfold Tu.drain; split
    · exact h.set _ _ ⟨rfl, rfl, rfl⟩
    · exact h
  split
  · exact ⟨by simp only [Tu.stop, Tu.clr]; split <;> omega, rfl, rfl, h.af, h.asp, h.bf, h.bsp⟩
  · exact h
end Go.Proofs.YtollcbacpoohlaaDoor
