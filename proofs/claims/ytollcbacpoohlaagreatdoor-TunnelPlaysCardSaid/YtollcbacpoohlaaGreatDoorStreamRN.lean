/- The document's stream: Next, In, Out, IsEnd. -/
import Derived.Test.YtollcbacpoohlaaGreatDoorStreamC
namespace Go.Proofs.YtollcbacpoohlaaGreatDoor
open Go.RowKit

set_option maxHeartbeats 4000000 in
theorem rnext_lit (s : Nat) (hs : s ≤ 6) (e x y : Int) (h : nextA s e = (x, y)) (w : World) :
    Calls Tryz.prog 49 #[.int .i64 s, .int .i64 e] w fun r w' => r = .returned (.tuple #[.int .i64 x, .int .i64 y]) ∧ w = w' := by
  have hcs : s = 0 ∨ s = 1 ∨ s = 2 ∨ s = 3 ∨ s = 4 ∨ s = 5 ∨ s = 6 := by omega
  by_cases he : 1 ≤ e ∧ e ≤ 6
  · have hce : e = 1 ∨ e = 2 ∨ e = 3 ∨ e = 4 ∨ e = 5 ∨ e = 6 := by omega
    clear hs he
    rcases hcs with rfl | rfl | rfl | rfl | rfl | rfl | rfl
    all_goals
      rcases hce with rfl | rfl | rfl | rfl | rfl | rfl
      all_goals
        cases h
        go_enter Tryz.func49, Tryz.ntmps49
        go_wp2
        go_ret2
        exact ⟨rfl, rfl⟩
  · have e1 : (e == 1) = false := by simp; omega
    have e2 : (e == 2) = false := by simp; omega
    have e3 : (e == 3) = false := by simp; omega
    have e4 : (e == 4) = false := by simp; omega
    have e5 : (e == 5) = false := by simp; omega
    have e6 : (e == 6) = false := by simp; omega
    have hn : nxt s e = none := by
      cases hn : nxt s e with
      | none => rfl
      | some t => exact absurd (nxt_ev hn) he
    unfold nextA at h
    rw [if_pos (by omega), Int.toNat_natCast, hn] at h
    cases h
    clear hs he hn
    rcases hcs with rfl | rfl | rfl | rfl | rfl | rfl | rfl
    all_goals
      go_enter Tryz.func49, Tryz.ntmps49
      go_wp2
      go_ret2
      exact ⟨rfl, rfl⟩

theorem rnext_any (s e x y : Int) (h : nextA s e = (x, y)) (w : World) :
    Calls Tryz.prog 49 #[.int .i64 s, .int .i64 e] w fun r w' => r = .returned (.tuple #[.int .i64 x, .int .i64 y]) ∧ w = w' := by
  by_cases hs : 0 ≤ s ∧ s < 7
  · obtain ⟨n, rfl⟩ : ∃ n : Nat, s = n := ⟨s.toNat, by omega⟩
    exact rnext_lit n (by omega) e x y h w
  · unfold nextA at h
    rw [if_neg hs] at h
    cases h
    rcases (show s < 0 ∨ 6 < s by omega) with h1 | h1
    · clear hs
      go_enter Tryz.func49, Tryz.ntmps49
      go_wp2
      go_ret2
      exact ⟨rfl, rfl⟩
    · have h2 : ¬ s < 0 := by omega
      clear hs
      go_enter Tryz.func49, Tryz.ntmps49
      go_wp2
      go_ret2
      exact ⟨rfl, rfl⟩

theorem rin_any (s : Int) (b : Bool) (h : (decide (s = 2) || decide (s = 4)) = b) (w : World) : Calls Tryz.prog 53 #[.int .i64 s] w fun r w' => r = .returned (.bool b) ∧ w = w' := by
  subst h
  by_cases h1 : s = 2
  · subst h1
    go_enter Tryz.func53, Tryz.ntmps53
    go_wp2
    go_ret
    exact ⟨rfl, rfl⟩
  · by_cases h2 : s = 4
    · subst h2
      clear h1
      go_enter Tryz.func53, Tryz.ntmps53
      go_wp2
      go_ret
      exact ⟨rfl, rfl⟩
    · have e : (decide (s = 2) || decide (s = 4)) = false := by simp [h1, h2]
      rw [e]
      have h3 : (s == 2) = false := by simpa using h1
      have h4 : (s == 4) = false := by simpa using h2
      clear h1 h2 e
      go_enter Tryz.func53, Tryz.ntmps53
      go_wp2
      go_ret
      exact ⟨rfl, rfl⟩
theorem rout_any (s : Int) (b : Bool) (h : (decide (s = 2) || decide (s = 3)) = b) (w : World) : Calls Tryz.prog 54 #[.int .i64 s] w fun r w' => r = .returned (.bool b) ∧ w = w' := by
  subst h
  by_cases h1 : s = 2
  · subst h1
    go_enter Tryz.func54, Tryz.ntmps54
    go_wp2
    go_ret
    exact ⟨rfl, rfl⟩
  · by_cases h2 : s = 3
    · subst h2
      clear h1
      go_enter Tryz.func54, Tryz.ntmps54
      go_wp2
      go_ret
      exact ⟨rfl, rfl⟩
    · have e : (decide (s = 2) || decide (s = 3)) = false := by simp [h1, h2]
      rw [e]
      have h3 : (s == 2) = false := by simpa using h1
      have h4 : (s == 3) = false := by simpa using h2
      clear h1 h2 e
      go_enter Tryz.func54, Tryz.ntmps54
      go_wp2
      go_ret
      exact ⟨rfl, rfl⟩
theorem risEnd_any (s : Int) (b : Bool) (h : (decide (s = 5) || decide (s = 6)) = b) (w : World) : Calls Tryz.prog 59 #[.int .i64 s] w fun r w' => r = .returned (.bool b) ∧ w = w' := by
  subst h
  by_cases h1 : s = 5
  · subst h1
    go_enter Tryz.func59, Tryz.ntmps59
    go_wp2
    go_ret
    exact ⟨rfl, rfl⟩
  · by_cases h2 : s = 6
    · subst h2
      clear h1
      go_enter Tryz.func59, Tryz.ntmps59
      go_wp2
      go_ret
      exact ⟨rfl, rfl⟩
    · have e : (decide (s = 5) || decide (s = 6)) = false := by simp [h1, h2]
      rw [e]
      have h3 : (s == 5) = false := by simpa using h1
      have h4 : (s == 6) = false := by simpa using h2
      clear h1 h2 e
      go_enter Tryz.func59, Tryz.ntmps59
      go_wp2
      go_ret
      exact ⟨rfl, rfl⟩
end Go.Proofs.YtollcbacpoohlaaGreatDoor
