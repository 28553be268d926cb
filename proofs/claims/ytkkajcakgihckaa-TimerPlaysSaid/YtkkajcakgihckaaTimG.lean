/- The walks of a timer's areIn. -/
import Derived.Test.YtkkajcakgihckaaTimF
namespace Go.Proofs.Ytkkajcakgihckaa
open Go.RowKit
attribute [local go_sem] Oper.semAt_some
attribute [local go_sem ↓] Go.wp_at_zero Go.wp_at_succ

theorem areIn1_any (n most : Int) (q : Nat) (r : Bool) (hr : decide (n < 0 ∨ most < n) = r) (w : World) (hc : w.cell? ⟨q, 0, none⟩ = some (.int .i64 most)) :
    Calls Try.prog 43 #[.int .i64 n, .pointer (some ⟨q, 0, none⟩)] w fun e w' => e = .returned (.bool r) ∧ w = w' := by
  subst hr
  by_cases h1 : n < 0
  · have e : decide (n < 0 ∨ most < n) = true := by simp [h1]
    rw [e]
    go_enter Try.func43, Try.ntmps43
    go_wp2
    go_ret
    exact ⟨rfl, rfl⟩
  · have e : decide (n < 0 ∨ most < n) = decide (most < n) := by simp [h1]
    rw [e]
    clear e
    go_enter Try.func43, Try.ntmps43
    go_wp2
    go_ret
    exact ⟨rfl, rfl⟩

set_option maxRecDepth 100000 in
set_option maxHeartbeats 1000000 in
theorem indexI_any (n most : Int) (g q : Nat) (r : Bool) (hr : decide (n < 0 ∨ most < n) = r) (w : World) (hc : w.cell? ⟨q, 0, none⟩ = some (.int .i64 most)) (hg : w.cell? ⟨g, 0, none⟩ = some (.int .i64 n)) :
    Calls Try.prog 50 #[.slice (some ⟨g, 0, none⟩) 1 1, .func (.func 43) #[] #[.pointer (some ⟨q, 0, none⟩)]] w fun e w' => (∃ i : Int, e = .returned (.int .i64 i) ∧ (decide (0 ≤ i) = r)) ∧ w = w' := by
  have hA := areIn1_any n most q r hr w hc
  clear hr
  go_enter Try.func50, Try.ntmps50
  go_wp2
  go_loopw [5, 8] (fun _ i wr => ∃ k : Nat, i = .int .i64 k ∧ k ≤ 1 ∧ Hid (k = 1 → r = false) ∧ Hid (wr = w)) (fun _ i _ => 1 - (intOf i).toNat)
  case atStart => exact ⟨0, rfl, by omega, Lib.hid (by omega), Lib.hid rfl⟩
  case round =>
    obtain ⟨k, rfl, hk, HR, HW⟩ := hrel
    obtain rfl := HW.out
    obtain rfl | rfl : k = 0 ∨ k = 1 := by omega
    · cases r with
      | true =>
        go_wp2_with (go_at_call 43; refine hA.mono ?_; rintro e w2 ⟨rfl, rfl⟩)
        go_ret
        exact ⟨⟨_, rfl, by simp⟩, rfl⟩
      | false =>
        go_wp2_with (go_at_call 43; refine hA.mono ?_; rintro e w2 ⟨rfl, rfl⟩)
        go_roundw
        case rel => exact ⟨1, rfl, by omega, Lib.hid (by simp), Lib.hid (by simp)⟩
        case measure => simp [intOf]
    · obtain rfl := HR.out rfl
      go_wp2
      go_ret
      exact ⟨⟨_, rfl, by simp⟩, rfl⟩

set_option maxRecDepth 100000 in
theorem containsI_any (n most : Int) (g q : Nat) (r : Bool) (hr : decide (n < 0 ∨ most < n) = r) (w : World) (hc : w.cell? ⟨q, 0, none⟩ = some (.int .i64 most)) (hg : w.cell? ⟨g, 0, none⟩ = some (.int .i64 n)) :
    Calls Try.prog 44 #[.slice (some ⟨g, 0, none⟩) 1 1, .func (.func 43) #[] #[.pointer (some ⟨q, 0, none⟩)]] w fun e w' => e = .returned (.bool r) ∧ w = w' := by
  have hA := indexI_any n most g q r hr w hc hg
  clear hr
  go_enter Try.func44, Try.ntmps44
  go_wp2_with (fail)
  refine hA.mono ?_
  rintro e w' ⟨⟨i, rfl, hi⟩, rfl⟩
  subst hi
  clear hA
  go_wp2
  go_ret
  exact ⟨rfl, rfl⟩

set_option maxRecDepth 100000 in
theorem areIn_any (n most : Int) (g : Nat) (r : Bool) (hr : decide (0 ≤ n ∧ n ≤ most) = r) (w : World) (hg : w.cell? ⟨g, 0, none⟩ = some (.int .i64 n)) :
    Calls Try.prog 33 #[.int .i64 most, .slice (some ⟨g, 0, none⟩) 1 1] w fun e w' => e = .returned (.bool r) ∧ Keeps [] w w' := by
  have hgl := World.block_lt_of_cell? w _ hg
  have hA := containsI_any n most g w.heap.size (!r) (by rw [← hr]; by_cases h1 : n < 0 <;> by_cases h2 : most < n <;> simp [h1, h2] <;> omega) (w.alloc (.cells #[.int .i64 most] 3)) (by simp [go_sem]) (by rw [(Below.refl w.heap.size w).alloc (Nat.le_refl _) _ |>.cell hgl]; exact hg)
  have hB : Keeps [] w (w.alloc (.cells #[.int .i64 most] 3)) := (Keeps.refl [] w).alloc _
  have HB := Lib.hid hB
  clear hr hB
  go_enter Try.func33, Try.ntmps33
  go_wp2_with (fail)
  refine hA.mono ?_
  clear hA
  rintro e w' ⟨rfl, rfl⟩
  go_wp2
  go_ret
  exact ⟨ret_bool (by simp), HB.out⟩
end Go.Proofs.Ytkkajcakgihckaa
