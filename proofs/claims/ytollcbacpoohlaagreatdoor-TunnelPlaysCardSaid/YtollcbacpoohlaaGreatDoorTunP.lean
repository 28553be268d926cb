/- Tunnels in plain Lean: a way is two queues, credit and counts; a tunnel is a state and two ways. No program in sight. -/
import Derived.Test.YtollcbacpoohlaaGreatDoorStreamP
import Derived.Test.YtollcbacpoohlaaGreatDoorTunS
namespace Go.Proofs.YtollcbacpoohlaaGreatDoor

/-- A way: IN, OUT, granted, spent (as many were moved), fed, drained. -/
structure Wy where
  i : List UInt8
  o : List UInt8
  g : Nat
  s : Nat
  f : Nat
  d : Nat

def Wy.zero : Wy := ⟨[], [], 0, 0, 0, 0⟩
/-- How many are moved. -/
def Wy.k (cap : Nat) (y : Wy) (n : Nat) : Nat := min (min (min n (y.g - y.s)) y.i.length) (cap - y.o.length)
def Wy.move (cap : Nat) (y : Wy) (n : Nat) : Wy := { y with i := y.i.drop (y.k cap n), o := y.o ++ y.i.take (y.k cap n), s := y.s + y.k cap n }
/-- How many are fed. -/
def Wy.n (cap : Nat) (y : Wy) (t : List UInt8) : Nat := min t.length (cap - y.i.length)
def Wy.feed (cap : Nat) (y : Wy) (t : List UInt8) : Wy := { y with i := y.i ++ t.take (y.n cap t), f := y.f + y.n cap t }
def Wy.drain (y : Wy) (n : Int) : Wy := { y with o := y.o.drop n.toNat, d := y.d + (y.o.take n.toNat).length }
def Wy.clr (y : Wy) : Wy := { y with i := [] }
def Wy.grant (y : Wy) (n : Int) : Wy := if (grantA y.g y.s n).2.2 = 0 then { y with g := y.g + n.toNat } else y

/-- What holds of a way. -/
structure WyOk (cap : Nat) (y : Wy) : Prop where
  c : okC y.g y.s = true
  i : y.i.length ≤ cap
  o : y.o.length ≤ cap
  d : y.d + y.o.length = y.s
  f : y.s + y.i.length ≤ y.f
  f' : y.f ≤ y.s + y.i.length + cap

theorem WyOk.zero (cap : Nat) : WyOk cap Wy.zero := ⟨by decide, by simp [Wy.zero], by simp [Wy.zero], rfl, by simp [Wy.zero], by simp [Wy.zero]⟩
theorem Wy.k_le (cap : Nat) (y : Wy) (n : Nat) : y.k cap n ≤ n ∧ y.k cap n ≤ y.g - y.s ∧ y.k cap n ≤ y.i.length ∧ y.k cap n ≤ cap - y.o.length := by
  unfold Wy.k; omega
theorem Wy.n_le (cap : Nat) (y : Wy) (t : List UInt8) : y.n cap t ≤ t.length ∧ y.n cap t ≤ cap - y.i.length := by
  unfold Wy.n; omega
theorem grantA_ok {g s : Nat} {n : Int} (h : (grantA g s n).2.2 = 0) : 0 ≤ n ∧ n ≤ 1000000000000 ∧ okC (g + n.toNat) s = true ∧ grantA g s n = (((g + n.toNat : Nat) : Int), (s : Int), 0) := by
  unfold grantA at h ⊢
  split at h
  · cases h
  · split at h
    · cases h
    · split at h
      · rename_i h1 h2 h3
        exact ⟨by omega, by omega, h3, by rw [if_neg h1, if_neg h2, if_pos h3]⟩
      · cases h

section
variable {cap : Nat} {y : Wy}
theorem WyOk.move (h : WyOk cap y) (n : Nat) : WyOk cap (y.move cap n) := by
  obtain ⟨h1, h2, h3, h4⟩ := y.k_le cap n
  have := h.o
  have := h.i
  have := h.d
  have := h.f
  have := h.f'
  refine ⟨spent_ok _ _ _ h.c h2, ?_, ?_, ?_, ?_, ?_⟩
  all_goals simp only [Wy.move, List.length_drop, List.length_append, List.length_take]
  all_goals omega
theorem WyOk.feed (h : WyOk cap y) (t : List UInt8) : WyOk cap (y.feed cap t) := by
  obtain ⟨h1, h2⟩ := y.n_le cap t
  have := h.o
  have := h.i
  have := h.d
  have := h.f
  have := h.f'
  refine ⟨h.c, ?_, h.o, h.d, ?_, ?_⟩
  all_goals simp only [Wy.feed, List.length_append, List.length_take]
  all_goals omega
theorem WyOk.drain (h : WyOk cap y) (n : Int) : WyOk cap (y.drain n) := by
  have := h.o
  have := h.d
  refine ⟨h.c, h.i, ?_, ?_, h.f, h.f'⟩
  all_goals simp only [Wy.drain, List.length_drop, List.length_take]
  all_goals omega
theorem WyOk.clr (h : WyOk cap y) (hf : y.f = y.s + y.i.length ∨ y.i = []) : WyOk cap y.clr := by
  have := h.i
  have := h.f
  have := h.f'
  refine ⟨h.c, by simp [Wy.clr], h.o, h.d, ?_, ?_⟩
  · simp only [Wy.clr, List.length_nil]; omega
  · simp only [Wy.clr, List.length_nil]
    rcases hf with hf | hf
    · omega
    · rw [hf] at this
      simp only [List.length_nil] at this
      omega
theorem WyOk.grant (h : WyOk cap y) (n : Int) : WyOk cap (y.grant n) := by
  unfold Wy.grant
  split
  · rename_i h1
    exact ⟨(grantA_ok h1).2.2.1, h.i, h.o, h.d, h.f, h.f'⟩
  · exact h
end
end Go.Proofs.YtollcbacpoohlaaGreatDoor
