/- The walks of the stream's Next, In, Out, IsEnd. -/
import Derived.Test.YtollcbacpoohlaaGreatDoorStreamB
namespace Go.Proofs.YtollcbacpoohlaaGreatDoor
open Go.RowKit
attribute [local go_sem ↓] Go.wp_at_zero Go.wp_at_succ

/-- Next's answer. -/
def nextA (s e : Int) : Int × Int := if 0 ≤ s ∧ s < 7 then (match nxt s.toNat e with | some t => ((t : Int), 0) | none => (0, 140)) else (0, 2)

set_option maxHeartbeats 1000000 in
theorem next_any (s e : Int) (w : World) :
    Calls Tryz.prog 20 #[.int .i64 s, .int .i64 e] w fun r w' => r = .returned (.tuple #[.int .i64 (nextA s e).1, .int .i64 (nextA s e).2]) ∧ Keeps [] w w' := by
  by_cases hb : 0 ≤ s ∧ s < 7
  · obtain ⟨n, rfl⟩ : ∃ n : Nat, s = n := ⟨s.toNat, by omega⟩
    have hn : n ≤ 6 := by omega
    have hd : decide (0 ≤ (n : Int) ∧ (n : Int) < 7) = true := by simpa using hb
    have HD := Lib.hid hd
    have HA : Hid (nextA n e = if nxtB n e then ((nxtS n e : Int), (0 : Int)) else (0, 140)) := by
      show nextA n e = _
      unfold nextA nxtB nxtS
      rw [if_pos hb, Int.toNat_natCast]
      cases nxt n e <;> rfl
    clear hd hb
    go_enter Tryz.func20, Tryz.ntmps20
    go_wp2_with (fail)
    refine (isState_any _ _ HD.out _).mono ?_
    rintro r w1 ⟨rfl, rfl⟩
    go_wp2_with (fail)
    refine (step_any _ n e hn _ (Blk.new w 92 #[.int .i64 n])).mono ?_
    rintro r w1 ⟨rfl, hw, hk⟩
    have c0 := hw.c0
    have HK := Lib.hid (((Keeps.refl [] w).alloc (.cells #[.int .i64 n] 92)).trans' hk (by simp))
    clear hw hk
    have hB : nxtB n e = true ∨ nxtB n e = false := by cases nxtB n e <;> simp
    rcases hB with hB | hB
    · have HA' := HA.out
      rw [if_pos hB] at HA'
      have HA2 := Lib.hid HA'
      rw [hB]
      clear HA HA' hB
      go_wp2
      go_ret2
      rw [HA2.out]
      exact ⟨rfl, HK.out⟩
    · have HA' := HA.out
      rw [if_neg (by simp [hB])] at HA'
      have HA2 := Lib.hid HA'
      rw [hB]
      clear HA HA' hB
      go_wp2
      go_ret2
      rw [HA2.out]
      exact ⟨rfl, HK.out⟩
  · have hd : decide (0 ≤ s ∧ s < 7) = false := by simpa using hb
    have HD := Lib.hid hd
    have HA : Hid (nextA s e = (0, 2)) := if_neg hb
    clear hd hb
    go_enter Tryz.func20, Tryz.ntmps20
    go_wp2_with (fail)
    refine (isState_any _ _ HD.out _).mono ?_
    rintro r w1 ⟨rfl, rfl⟩
    go_wp2_with (fail)
    go_ret2
    rw [HA.out]
    exact ⟨rfl, (Keeps.refl [] w).alloc _⟩

theorem ints2 (w : World) (x y : Int) : IntsAt (w.alloc (.cells #[.int .i64 x, .int .i64 y] 3)) w.heap.size 0 [x, y] := by
  intro i hi
  have h := (Blk.new w 3 #[.int .i64 x, .int .i64 y]).cell i
  match i, hi with
  | 0, _ => exact h
  | 1, _ => exact h

theorem in_any (s : Int) (w : World) : Calls Tryz.prog 62 #[.int .i64 s] w fun r w' => r = .returned (.bool (decide (s = 2) || decide (s = 4))) ∧ Keeps [] w w' := by
  go_enter Tryz.func62, Tryz.ntmps62
  go_wp2_with (fail)
  refine (is_any s _ 0 2 [2, 4] _ (ints2 _ _ _) (by simp)).mono ?_
  rintro r w1 ⟨rfl, rfl⟩
  go_wp2_with (fail)
  go_ret
  exact ⟨rfl, (Keeps.refl [] w).alloc _⟩
theorem out_any (s : Int) (w : World) : Calls Tryz.prog 63 #[.int .i64 s] w fun r w' => r = .returned (.bool (decide (s = 2) || decide (s = 3))) ∧ Keeps [] w w' := by
  go_enter Tryz.func63, Tryz.ntmps63
  go_wp2_with (fail)
  refine (is_any s _ 0 2 [2, 3] _ (ints2 _ _ _) (by simp)).mono ?_
  rintro r w1 ⟨rfl, rfl⟩
  go_wp2_with (fail)
  go_ret
  exact ⟨rfl, (Keeps.refl [] w).alloc _⟩
theorem isEnd_any (s : Int) (w : World) : Calls Tryz.prog 22 #[.int .i64 s] w fun r w' => r = .returned (.bool (decide (s = 5) || decide (s = 6))) ∧ Keeps [] w w' := by
  go_enter Tryz.func22, Tryz.ntmps22
  go_wp2_with (fail)
  refine (is_any s _ 0 2 [5, 6] _ (ints2 _ _ _) (by simp)).mono ?_
  rintro r w1 ⟨rfl, rfl⟩
  go_wp2_with (fail)
  go_ret
  exact ⟨rfl, (Keeps.refl [] w).alloc _⟩
end Go.Proofs.YtollcbacpoohlaaGreatDoor
