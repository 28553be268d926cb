/- A timer's heap in memory, and the walks of its small methods. -/
import Derived.Test.YtkkajcakgihckaaChecked
import Derived.Test.YtkkajcakgihckaaTimH
import Derived.Test.YtkkajcakgihckaaMapI
import Derived.IntWalk
import Derived.Deep.RegionHeld3
import Derived.Deep.DrawnRows
import Derived.BigRegion
namespace Go.Proofs.Ytkkajcakgihckaa
open Go.RowKit
attribute [local go_sem] Oper.semAt_some
attribute [local go_sem ↓] Go.wp_at_zero Go.wp_at_succ

/-- The methods of the heap's type, found by name. -/
theorem mq_len (w : World) (b : Nat) : (method 233 77 (.pointer (some ⟨b, 0, none⟩)) "Len").run Try.prog w = (do let v ← loadVar 53 ⟨b, 0, none⟩; pure (28, v)).run Try.prog w := by kernel_rfl
theorem mq_less (w : World) (b : Nat) : (method 233 77 (.pointer (some ⟨b, 0, none⟩)) "Less").run Try.prog w = (do let v ← loadVar 53 ⟨b, 0, none⟩; pure (83, v)).run Try.prog w := by kernel_rfl
theorem mq_swap (w : World) (b : Nat) : (method 233 77 (.pointer (some ⟨b, 0, none⟩)) "Swap").run Try.prog w = (do let v ← loadVar 53 ⟨b, 0, none⟩; pure (86, v)).run Try.prog w := by kernel_rfl
theorem m_len {w : World} {b : Nat} {v : Value} (h : w.cell? ⟨b, 0, none⟩ = some v) : (method 233 77 (.pointer (some ⟨b, 0, none⟩)) "Len").run Try.prog w = .ok (28, v) w := by
  rw [mq_len]; simp [loadVar, Try.isAgg53, h, go_sem]
theorem m_less {w : World} {b : Nat} {v : Value} (h : w.cell? ⟨b, 0, none⟩ = some v) : (method 233 77 (.pointer (some ⟨b, 0, none⟩)) "Less").run Try.prog w = .ok (83, v) w := by
  rw [mq_less]; simp [loadVar, Try.isAgg53, h, go_sem]
theorem m_swap {w : World} {b : Nat} {v : Value} (h : w.cell? ⟨b, 0, none⟩ = some v) : (method 233 77 (.pointer (some ⟨b, 0, none⟩)) "Swap").run Try.prog w = .ok (86, v) w := by
  rw [mq_swap]; simp [loadVar, Try.isAgg53, h, go_sem]
theorem m_push (w : World) (b : Nat) : (method 233 77 (.pointer (some ⟨b, 0, none⟩)) "Push").run Try.prog w = .ok (85, .pointer (some ⟨b, 0, none⟩)) w := by kernel_rfl
theorem m_pop (w : World) (b : Nat) : (method 233 77 (.pointer (some ⟨b, 0, none⟩)) "Pop").run Try.prog w = .ok (84, .pointer (some ⟨b, 0, none⟩)) w := by kernel_rfl

set_option maxRecDepth 100000 in
set_option maxHeartbeats 1000000 in
theorem ahead_any (a b : Nat) (ka aa kb ab : Int) (w : World) (h0 : w.cell? ⟨a, 0, none⟩ = some (.int .i64 ka)) (h1 : w.cell? ⟨a, 1, none⟩ = some (.int .i64 aa)) (h2 : w.cell? ⟨b, 0, none⟩ = some (.int .i64 kb)) (h3 : w.cell? ⟨b, 1, none⟩ = some (.int .i64 ab)) :
    Calls Try.prog 40 #[.pointer (some ⟨a, 0, none⟩), .pointer (some ⟨b, 0, none⟩)] w fun e w' => e = .returned (.bool (decide (aa < ab ∨ aa = ab ∧ ka < kb))) ∧ ∃ q, w' = w.drewN q := by
  rcases Int.lt_trichotomy aa ab with c1 | c1 | c1
  · have r : decide (aa < ab ∨ aa = ab ∧ ka < kb) = true := by simp [c1]
    go_enter Try.func40, Try.ntmps40
    go_wp2_with (fail)
    go_quiet (fail)
    go_wp2
    go_ret
    exact ⟨by rw [r]; rfl, _, rfl⟩
  · subst c1
    have d1 : decide (aa < aa) = false := decide_eq_false (by omega)
    have d2 : (aa == aa) = true := by simp
    have d3 : decide (aa = aa) = true := by simp
    have r : decide (aa < aa ∨ aa = aa ∧ ka < kb) = decide (ka < kb) := by simp
    have R := Lib.hid r
    clear r
    go_enter Try.func40, Try.ntmps40
    go_wp2_with (fail)
    go_quiet (fail)
    go_wp2
    go_ret
    exact ⟨by rw [R.out]; rfl, _, rfl⟩
  · have d1 : decide (aa < ab) = false := decide_eq_false (by omega)
    have d2 : (aa == ab) = false := by simp; omega
    have d3 : decide (aa = ab) = false := decide_eq_false (by omega)
    have r : decide (aa < ab ∨ aa = ab ∧ ka < kb) = false := decide_eq_false (by omega)
    have R := Lib.hid r
    clear r c1
    go_enter Try.func40, Try.ntmps40
    go_wp2_with (fail)
    go_quiet (fail)
    go_wp2
    go_ret
    exact ⟨by rw [R.out]; rfl, _, rfl⟩

theorem elen_any (a : Option Addr) (n c : Nat) (w : World) : Calls Try.prog 28 #[.slice a n c] w fun e w' => e = .returned (.int .i64 n) ∧ w = w' := by
  go_enter Try.func28, Try.ntmps28
  go_wp2
  go_ret
  exact ⟨rfl, rfl⟩

set_option maxRecDepth 100000 in
set_option maxHeartbeats 1000000 in
theorem swap_ne (g N cap i j bi bj : Nat) (w : World) (hij : i ≠ j) (hi : i < N) (hj : j < N) (ci : w.cell? ⟨g, i, none⟩ = some (.pointer (some ⟨bi, 0, none⟩))) (cj : w.cell? ⟨g, j, none⟩ = some (.pointer (some ⟨bj, 0, none⟩)))
    (xi : Value) (xj : Value) (ei : w.cell? ⟨bi, 2, none⟩ = some xi) (ej : w.cell? ⟨bj, 2, none⟩ = some xj) (fi : w.frozen? ⟨g, i, none⟩ = false) (fj : w.frozen? ⟨g, j, none⟩ = false) (gi : w.frozen? ⟨bi, 2, none⟩ = false) (gj : w.frozen? ⟨bj, 2, none⟩ = false)
    (n1 : g ≠ bi) (n2 : g ≠ bj) (n3 : bi ≠ bj) :
    Calls Try.prog 86 #[.slice (some ⟨g, 0, none⟩) N cap, .int .i64 i, .int .i64 j] w fun e w' => e = .returned (.tuple #[]) ∧
      ∃ q, w' = ((((w.setCell ⟨g, i, none⟩ (.pointer (some ⟨bj, 0, none⟩))).setCell ⟨g, j, none⟩ (.pointer (some ⟨bi, 0, none⟩))).setCell ⟨bj, 2, none⟩ (.int .i64 i)).setCell ⟨bi, 2, none⟩ (.int .i64 j)).drewN q := by
  have i1 : (0 : Int) ≤ (i : Int) := by omega
  have i2 : (i : Int) < (N : Int) := by omega
  have j1 : (0 : Int) ≤ (j : Int) := by omega
  have j2 : (j : Int) < (N : Int) := by omega
  have hji : j ≠ i := fun h => hij h.symm
  have m1 : bi ≠ g := fun h => n1 h.symm
  have m2 : bj ≠ g := fun h => n2 h.symm
  have m3 : bj ≠ bi := fun h => n3 h.symm
  clear hi hj
  go_enter Try.func86, Try.ntmps86
  go_wp2
  go_region
  go_wp2
  obtain ⟨wq, hwq⟩ : ∃ wq, ((w.setCell ⟨g, i, none⟩ (.pointer (some ⟨bj, 0, none⟩))).setCell ⟨g, j, none⟩ (.pointer (some ⟨bi, 0, none⟩))).drew = wq := ⟨_, rfl⟩
  rw [hwq]
  have HQ := Lib.hid hwq
  clear hwq
  have ci2 : wq.cell? ⟨g, i, none⟩ = some (.pointer (some ⟨bj, 0, none⟩)) := by rw [← HQ.out]; simp [go_sem, *]
  have cj2 : wq.cell? ⟨g, j, none⟩ = some (.pointer (some ⟨bi, 0, none⟩)) := by rw [← HQ.out]; simp [go_sem, *]
  have ei2 : wq.cell? ⟨bi, 2, none⟩ = some xi := by rw [← HQ.out]; simp [go_sem, *]
  have ej2 : wq.cell? ⟨bj, 2, none⟩ = some xj := by rw [← HQ.out]; simp [go_sem, *]
  have gi2 : wq.frozen? ⟨bi, 2, none⟩ = false := by rw [← HQ.out]; simp [go_sem, *]
  have gj2 : wq.frozen? ⟨bj, 2, none⟩ = false := by rw [← HQ.out]; simp [go_sem, *]
  clear ci cj ei ej fi fj gi gj
  go_region
  go_end0
  exact ⟨rfl, 2, by rw [← HQ.out]; rfl⟩

set_option maxRecDepth 100000 in
set_option maxHeartbeats 1000000 in
theorem swap_one (g N cap bi : Nat) (w : World) (hi : 0 < N) (ci : w.cell? ⟨g, 0, none⟩ = some (.pointer (some ⟨bi, 0, none⟩))) (xi : Value) (ei : w.cell? ⟨bi, 2, none⟩ = some xi) (fi : w.frozen? ⟨g, 0, none⟩ = false) (gi : w.frozen? ⟨bi, 2, none⟩ = false) (n1 : g ≠ bi) :
    Calls Try.prog 86 #[.slice (some ⟨g, 0, none⟩) N cap, .int .i64 0, .int .i64 0] w fun e w' => e = .returned (.tuple #[]) ∧
      ∃ q, w' = ((((w.setCell ⟨g, 0, none⟩ (.pointer (some ⟨bi, 0, none⟩))).setCell ⟨g, 0, none⟩ (.pointer (some ⟨bi, 0, none⟩))).setCell ⟨bi, 2, none⟩ (.int .i64 0)).setCell ⟨bi, 2, none⟩ (.int .i64 0)).drewN q := by
  have i2 : (0 : Int) < (N : Int) := by omega
  have m1 : bi ≠ g := fun h => n1 h.symm
  clear hi
  go_enter Try.func86, Try.ntmps86
  go_wp2
  go_region
  go_wp2
  obtain ⟨wq, hwq⟩ : ∃ wq, ((w.setCell ⟨g, 0, none⟩ (.pointer (some ⟨bi, 0, none⟩))).setCell ⟨g, 0, none⟩ (.pointer (some ⟨bi, 0, none⟩))).drew = wq := ⟨_, rfl⟩
  rw [hwq]
  have HQ := Lib.hid hwq
  clear hwq
  have ci2 : wq.cell? ⟨g, 0, none⟩ = some (.pointer (some ⟨bi, 0, none⟩)) := by rw [← HQ.out]; simp [go_sem, *]
  have ei2 : wq.cell? ⟨bi, 2, none⟩ = some xi := by rw [← HQ.out]; simp [go_sem, *]
  have gi2 : wq.frozen? ⟨bi, 2, none⟩ = false := by rw [← HQ.out]; simp [go_sem, *]
  clear ci ei fi gi
  go_region
  go_end0
  exact ⟨rfl, 2, by rw [← HQ.out]; rfl⟩

set_option maxRecDepth 100000 in
set_option maxHeartbeats 1000000 in
theorem less_any (g N cap i j a b : Nat) (ka aa kb ab : Int) (w : World) (hi : i < N) (hj : j < N) (ci : w.cell? ⟨g, i, none⟩ = some (.pointer (some ⟨a, 0, none⟩))) (cj : w.cell? ⟨g, j, none⟩ = some (.pointer (some ⟨b, 0, none⟩)))
    (h0 : w.cell? ⟨a, 0, none⟩ = some (.int .i64 ka)) (h1 : w.cell? ⟨a, 1, none⟩ = some (.int .i64 aa)) (h2 : w.cell? ⟨b, 0, none⟩ = some (.int .i64 kb)) (h3 : w.cell? ⟨b, 1, none⟩ = some (.int .i64 ab)) :
    Calls Try.prog 83 #[.slice (some ⟨g, 0, none⟩) N cap, .int .i64 i, .int .i64 j] w fun e w' => e = .returned (.bool (decide (aa < ab ∨ aa = ab ∧ ka < kb))) ∧ ∃ q, w' = w.drewN q := by
  have i1 : (0 : Int) ≤ (i : Int) := by omega
  have i2 : (i : Int) < (N : Int) := by omega
  have j1 : (0 : Int) ≤ (j : Int) := by omega
  have j2 : (j : Int) < (N : Int) := by omega
  have HA := fun n => ahead_any a b ka aa kb ab (w.drewN n) h0 h1 h2 h3
  obtain ⟨r, hr⟩ : ∃ r, decide (aa < ab ∨ aa = ab ∧ ka < kb) = r := ⟨_, rfl⟩
  rw [hr] at HA ⊢
  clear hr h0 h1 h2 h3 hi hj
  go_enter Try.func83, Try.ntmps83
  go_wp2_with (fail)
  go_quiet ((go_at_call 40; exact Calls.quiet_of (HA _)))
  go_wp2_with (fail)
  go_ret
  exact ⟨rfl, _, rfl⟩
end Go.Proofs.Ytkkajcakgihckaa
