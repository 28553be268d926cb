/- The walks of the laws' helpers: shown, few. -/
import Derived.Test.YtfgkfhchnnkonaaStreamF
namespace Go.Proofs.Ytfgkfhchnnkonaa
open Go.RowKit
attribute [local go_sem ↓] Go.wp_at_zero Go.wp_at_succ

theorem ints4 (w : World) (x y z u : Int) : IntsAt (w.alloc (.cells #[.int .i64 x, .int .i64 y, .int .i64 z, .int .i64 u] 3)) w.heap.size 0 [x, y, z, u] := by
  intro i hi
  have h := (Blk.new w 3 #[.int .i64 x, .int .i64 y, .int .i64 z, .int .i64 u]).cell i
  match i, hi with
  | 0, _ => exact h
  | 1, _ => exact h
  | 2, _ => exact h
  | 3, _ => exact h
theorem next_eq (s e x y : Int) (h : nextA s e = (x, y)) (w : World) :
    Calls Try.prog 14 #[.int .i64 s, .int .i64 e] w fun r w' => r = .returned (.tuple #[.int .i64 x, .int .i64 y]) ∧ Keeps [] w w' := by
  have := next_any s e w
  rw [h] at this
  exact this
theorem least_eq (f t : Nat) (hf : f ≤ 6) (ht : t ≤ 6) (m : Nat) (b : Bool) (h : ((dist f t).getD 0, (dist f t).isSome) = (m, b)) (w : World) :
    Calls Try.prog 13 #[.int .i64 f, .int .i64 t] w fun r w' => r = .returned (.tuple #[.int .i64 m, .bool b]) ∧ Keeps [] w w' := by
  have := least_ok f t hf ht w
  injection h with h1 h2
  rw [h1, h2] at this
  exact this
theorem in_eq (s : Int) (b : Bool) (h : (decide (s = 2) || decide (s = 4)) = b) (w : World) : Calls Try.prog 15 #[.int .i64 s] w fun r w' => r = .returned (.bool b) ∧ Keeps [] w w' := by
  have := in_any s w
  rw [h] at this
  exact this
theorem out_eq (s : Int) (b : Bool) (h : (decide (s = 2) || decide (s = 3)) = b) (w : World) : Calls Try.prog 16 #[.int .i64 s] w fun r w' => r = .returned (.bool b) ∧ Keeps [] w w' := by
  have := out_any s w
  rw [h] at this
  exact this
theorem isEnd_eq (s : Int) (b : Bool) (h : (decide (s = 5) || decide (s = 6)) = b) (w : World) : Calls Try.prog 22 #[.int .i64 s] w fun r w' => r = .returned (.bool b) ∧ Keeps [] w w' := by
  have := isEnd_any s w
  rw [h] at this
  exact this

set_option maxHeartbeats 1000000 in
theorem shown_any (w : World) : Calls Try.prog 10 #[] w fun r w' => r = .returned (.bool true) ∧ Keeps [] w w' := by
  go_enter Try.func10, Try.ntmps10
  go_wp2_with (fail)
  refine (run_any 0 (by omega) [1, 2, 4, 4] _ 0 4 _ (ints4 _ _ _ _ _) (by simp) 3 3 (by decide)).mono ?_
  rintro r w1 ⟨rfl, hk⟩
  have HK1 := Lib.hid (((Keeps.refl [] w).alloc _).trans hk)
  clear hk
  go_wp2_with (fail)
  refine (next_eq 7 1 0 2 (by decide) _).mono ?_
  rintro r w2 ⟨rfl, hk⟩
  have HK2 := Lib.hid (HK1.out.trans hk)
  clear hk HK1
  go_wp2_with (fail)
  refine (next_eq 5 6 0 140 (by decide) _).mono ?_
  rintro r w3 ⟨rfl, hk⟩
  have HK3 := Lib.hid (HK2.out.trans hk)
  clear hk HK2
  go_wp2_with (fail)
  refine (least_eq 0 5 (by omega) (by omega) 4 true (by decide) _).mono ?_
  rintro r w4 ⟨rfl, hk⟩
  have HK4 := Lib.hid (HK3.out.trans hk)
  clear hk HK3
  go_wp2_with (fail)
  refine (in_eq 3 false (by decide) _).mono ?_
  rintro r w5 ⟨rfl, hk⟩
  have HK5 := Lib.hid (HK4.out.trans hk)
  clear hk HK4
  go_wp2_with (fail)
  refine (out_eq 3 true (by decide) _).mono ?_
  rintro r w6 ⟨rfl, hk⟩
  have HK6 := Lib.hid (HK5.out.trans hk)
  clear hk HK5
  go_wp2_with (fail)
  go_ret
  exact ⟨rfl, HK6.out⟩
end Go.Proofs.Ytfgkfhchnnkonaa
