/- StreamEither: for every state. No condition. -/
import Derived.Test.YtfgkfhchnnkonaaStreamG
import Derived.Test.YtfgkfhchnnkonaaLaw
namespace Go.Proofs.Ytfgkfhchnnkonaa
open Go.RowKit

namespace streamEither
open Go.ChangeShapes Go.WideShapes Go.ChangeAt
attribute [local go_sem ↓] Go.wp_at_zero Go.wp_at_succ

set_option maxHeartbeats 2000000 in
theorem walk_bad (w : World) (s : Int) (hs : ¬ (0 ≤ s ∧ s < 7)) : Calls Try.prog 9 #[.int .i64 s] w fun e w' => e = .returned (.bool true) ∧ Below w.heap.size w w' := by
  have HK := Lib.hid (Keeps.refl [] w)
  have HS := Lib.hid hs
  clear hs
  go_enter Try.func9, Try.ntmps9
  go_wp2_with (fail)
  refine (shown_any _).mono ?_
  rintro r w1 ⟨rfl, hk⟩
  have HK := Lib.hid (HK.out.trans hk)
  clear hk
  go_wp2_with (fail)
  refine (run_bad s _ HS.out _).mono ?_
  rintro r w1 ⟨rfl, hk⟩
  have HK := Lib.hid ((HK.out.alloc _).trans hk)
  clear hk
  go_wp2_with (fail)
  refine (run_bad s _ HS.out _).mono ?_
  rintro r w1 ⟨rfl, hk⟩
  have HK := Lib.hid ((HK.out.alloc _).trans hk)
  clear hk
  go_wp2_with (fail)
  refine (next_eq s 6 0 2 (if_neg HS.out) _).mono ?_
  rintro r w1 ⟨rfl, hk⟩
  have HK := Lib.hid (HK.out.trans hk)
  clear hk
  go_wp2_with (fail)
  go_ret
  exact ⟨rfl, HK.out.below (Nat.le_refl _) (by simp)⟩

set_option maxHeartbeats 2000000 in
theorem walk_0 (w : World) : Calls Try.prog 9 #[.int .i64 0] w fun e w' => e = .returned (.bool true) ∧ Below w.heap.size w w' := by
  have HK := Lib.hid (Keeps.refl [] w)
  go_enter Try.func9, Try.ntmps9
  go_wp2_with (fail)
  refine (shown_any _).mono ?_
  rintro r w1 ⟨rfl, hk⟩
  have HK := Lib.hid (HK.out.trans hk)
  clear hk
  go_wp2_with (fail)
  refine (run_any 0 (by omega) [4, 5] _ 0 2 _ (ints2 _ _ _) (by simp) 0 0 (by decide)).mono ?_
  rintro r w1 ⟨rfl, hk⟩
  have HK := Lib.hid ((HK.out.alloc _).trans hk)
  clear hk
  go_wp2_with (fail)
  refine (run_any 0 (by omega) [5, 4] _ 0 2 _ (ints2 _ _ _) (by simp) 0 0 (by decide)).mono ?_
  rintro r w1 ⟨rfl, hk⟩
  have HK := Lib.hid ((HK.out.alloc _).trans hk)
  clear hk
  go_wp2_with (fail)
  refine (next_eq 0 6 0 140 (by decide) _).mono ?_
  rintro r w1 ⟨rfl, hk⟩
  have HK := Lib.hid (HK.out.trans hk)
  clear hk
  go_wp2_with (fail)
  refine (in_eq 0 false (by decide) _).mono ?_
  rintro r w1 ⟨rfl, hk⟩
  have HK := Lib.hid (HK.out.trans hk)
  clear hk
  go_wp2_with (fail)
  go_ret
  exact ⟨rfl, HK.out.below (Nat.le_refl _) (by simp)⟩

set_option maxHeartbeats 2000000 in
theorem walk_1 (w : World) : Calls Try.prog 9 #[.int .i64 1] w fun e w' => e = .returned (.bool true) ∧ Below w.heap.size w w' := by
  have HK := Lib.hid (Keeps.refl [] w)
  go_enter Try.func9, Try.ntmps9
  go_wp2_with (fail)
  refine (shown_any _).mono ?_
  rintro r w1 ⟨rfl, hk⟩
  have HK := Lib.hid (HK.out.trans hk)
  clear hk
  go_wp2_with (fail)
  refine (run_any 1 (by omega) [4, 5] _ 0 2 _ (ints2 _ _ _) (by simp) 1 0 (by decide)).mono ?_
  rintro r w1 ⟨rfl, hk⟩
  have HK := Lib.hid ((HK.out.alloc _).trans hk)
  clear hk
  go_wp2_with (fail)
  refine (run_any 1 (by omega) [5, 4] _ 0 2 _ (ints2 _ _ _) (by simp) 1 0 (by decide)).mono ?_
  rintro r w1 ⟨rfl, hk⟩
  have HK := Lib.hid ((HK.out.alloc _).trans hk)
  clear hk
  go_wp2_with (fail)
  refine (next_eq 1 6 6 0 (by decide) _).mono ?_
  rintro r w1 ⟨rfl, hk⟩
  have HK := Lib.hid (HK.out.trans hk)
  clear hk
  go_wp2_with (fail)
  refine (in_eq 1 false (by decide) _).mono ?_
  rintro r w1 ⟨rfl, hk⟩
  have HK := Lib.hid (HK.out.trans hk)
  clear hk
  go_wp2_with (fail)
  refine (isEnd_eq 1 false (by decide) _).mono ?_
  rintro r w1 ⟨rfl, hk⟩
  have HK := Lib.hid (HK.out.trans hk)
  clear hk
  go_wp2_with (fail)
  go_ret
  exact ⟨rfl, HK.out.below (Nat.le_refl _) (by simp)⟩

set_option maxHeartbeats 2000000 in
theorem walk_2 (w : World) : Calls Try.prog 9 #[.int .i64 2] w fun e w' => e = .returned (.bool true) ∧ Below w.heap.size w w' := by
  have HK := Lib.hid (Keeps.refl [] w)
  go_enter Try.func9, Try.ntmps9
  go_wp2_with (fail)
  refine (shown_any _).mono ?_
  rintro r w1 ⟨rfl, hk⟩
  have HK := Lib.hid (HK.out.trans hk)
  clear hk
  go_wp2_with (fail)
  refine (run_any 2 (by omega) [4, 5] _ 0 2 _ (ints2 _ _ _) (by simp) 5 2 (by decide)).mono ?_
  rintro r w1 ⟨rfl, hk⟩
  have HK := Lib.hid ((HK.out.alloc _).trans hk)
  clear hk
  go_wp2_with (fail)
  refine (run_any 2 (by omega) [5, 4] _ 0 2 _ (ints2 _ _ _) (by simp) 5 2 (by decide)).mono ?_
  rintro r w1 ⟨rfl, hk⟩
  have HK := Lib.hid ((HK.out.alloc _).trans hk)
  clear hk
  go_wp2_with (fail)
  refine (next_eq 2 6 6 0 (by decide) _).mono ?_
  rintro r w1 ⟨rfl, hk⟩
  have HK := Lib.hid (HK.out.trans hk)
  clear hk
  go_wp2_with (fail)
  refine (in_eq 2 true (by decide) _).mono ?_
  rintro r w1 ⟨rfl, hk⟩
  have HK := Lib.hid (HK.out.trans hk)
  clear hk
  go_wp2_with (fail)
  refine (out_eq 2 true (by decide) _).mono ?_
  rintro r w1 ⟨rfl, hk⟩
  have HK := Lib.hid (HK.out.trans hk)
  clear hk
  go_wp2_with (fail)
  refine (isEnd_eq 2 false (by decide) _).mono ?_
  rintro r w1 ⟨rfl, hk⟩
  have HK := Lib.hid (HK.out.trans hk)
  clear hk
  go_wp2_with (fail)
  go_ret
  exact ⟨rfl, HK.out.below (Nat.le_refl _) (by simp)⟩

set_option maxHeartbeats 2000000 in
theorem walk_3 (w : World) : Calls Try.prog 9 #[.int .i64 3] w fun e w' => e = .returned (.bool true) ∧ Below w.heap.size w w' := by
  have HK := Lib.hid (Keeps.refl [] w)
  go_enter Try.func9, Try.ntmps9
  go_wp2_with (fail)
  refine (shown_any _).mono ?_
  rintro r w1 ⟨rfl, hk⟩
  have HK := Lib.hid (HK.out.trans hk)
  clear hk
  go_wp2_with (fail)
  refine (run_any 3 (by omega) [4, 5] _ 0 2 _ (ints2 _ _ _) (by simp) 3 0 (by decide)).mono ?_
  rintro r w1 ⟨rfl, hk⟩
  have HK := Lib.hid ((HK.out.alloc _).trans hk)
  clear hk
  go_wp2_with (fail)
  refine (run_any 3 (by omega) [5, 4] _ 0 2 _ (ints2 _ _ _) (by simp) 5 1 (by decide)).mono ?_
  rintro r w1 ⟨rfl, hk⟩
  have HK := Lib.hid ((HK.out.alloc _).trans hk)
  clear hk
  go_wp2_with (fail)
  refine (next_eq 3 6 6 0 (by decide) _).mono ?_
  rintro r w1 ⟨rfl, hk⟩
  have HK := Lib.hid (HK.out.trans hk)
  clear hk
  go_wp2_with (fail)
  refine (in_eq 3 false (by decide) _).mono ?_
  rintro r w1 ⟨rfl, hk⟩
  have HK := Lib.hid (HK.out.trans hk)
  clear hk
  go_wp2_with (fail)
  refine (isEnd_eq 3 false (by decide) _).mono ?_
  rintro r w1 ⟨rfl, hk⟩
  have HK := Lib.hid (HK.out.trans hk)
  clear hk
  go_wp2_with (fail)
  go_ret
  exact ⟨rfl, HK.out.below (Nat.le_refl _) (by simp)⟩

set_option maxHeartbeats 2000000 in
theorem walk_4 (w : World) : Calls Try.prog 9 #[.int .i64 4] w fun e w' => e = .returned (.bool true) ∧ Below w.heap.size w w' := by
  have HK := Lib.hid (Keeps.refl [] w)
  go_enter Try.func9, Try.ntmps9
  go_wp2_with (fail)
  refine (shown_any _).mono ?_
  rintro r w1 ⟨rfl, hk⟩
  have HK := Lib.hid (HK.out.trans hk)
  clear hk
  go_wp2_with (fail)
  refine (run_any 4 (by omega) [4, 5] _ 0 2 _ (ints2 _ _ _) (by simp) 5 1 (by decide)).mono ?_
  rintro r w1 ⟨rfl, hk⟩
  have HK := Lib.hid ((HK.out.alloc _).trans hk)
  clear hk
  go_wp2_with (fail)
  refine (run_any 4 (by omega) [5, 4] _ 0 2 _ (ints2 _ _ _) (by simp) 4 0 (by decide)).mono ?_
  rintro r w1 ⟨rfl, hk⟩
  have HK := Lib.hid ((HK.out.alloc _).trans hk)
  clear hk
  go_wp2_with (fail)
  refine (next_eq 4 6 6 0 (by decide) _).mono ?_
  rintro r w1 ⟨rfl, hk⟩
  have HK := Lib.hid (HK.out.trans hk)
  clear hk
  go_wp2_with (fail)
  refine (in_eq 4 true (by decide) _).mono ?_
  rintro r w1 ⟨rfl, hk⟩
  have HK := Lib.hid (HK.out.trans hk)
  clear hk
  go_wp2_with (fail)
  refine (out_eq 4 false (by decide) _).mono ?_
  rintro r w1 ⟨rfl, hk⟩
  have HK := Lib.hid (HK.out.trans hk)
  clear hk
  go_wp2_with (fail)
  refine (isEnd_eq 4 false (by decide) _).mono ?_
  rintro r w1 ⟨rfl, hk⟩
  have HK := Lib.hid (HK.out.trans hk)
  clear hk
  go_wp2_with (fail)
  go_ret
  exact ⟨rfl, HK.out.below (Nat.le_refl _) (by simp)⟩

set_option maxHeartbeats 2000000 in
theorem walk_5 (w : World) : Calls Try.prog 9 #[.int .i64 5] w fun e w' => e = .returned (.bool true) ∧ Below w.heap.size w w' := by
  have HK := Lib.hid (Keeps.refl [] w)
  go_enter Try.func9, Try.ntmps9
  go_wp2_with (fail)
  refine (shown_any _).mono ?_
  rintro r w1 ⟨rfl, hk⟩
  have HK := Lib.hid (HK.out.trans hk)
  clear hk
  go_wp2_with (fail)
  refine (run_any 5 (by omega) [4, 5] _ 0 2 _ (ints2 _ _ _) (by simp) 5 0 (by decide)).mono ?_
  rintro r w1 ⟨rfl, hk⟩
  have HK := Lib.hid ((HK.out.alloc _).trans hk)
  clear hk
  go_wp2_with (fail)
  refine (run_any 5 (by omega) [5, 4] _ 0 2 _ (ints2 _ _ _) (by simp) 5 0 (by decide)).mono ?_
  rintro r w1 ⟨rfl, hk⟩
  have HK := Lib.hid ((HK.out.alloc _).trans hk)
  clear hk
  go_wp2_with (fail)
  refine (next_eq 5 6 0 140 (by decide) _).mono ?_
  rintro r w1 ⟨rfl, hk⟩
  have HK := Lib.hid (HK.out.trans hk)
  clear hk
  go_wp2_with (fail)
  refine (in_eq 5 false (by decide) _).mono ?_
  rintro r w1 ⟨rfl, hk⟩
  have HK := Lib.hid (HK.out.trans hk)
  clear hk
  go_wp2_with (fail)
  refine (isEnd_eq 5 true (by decide) _).mono ?_
  rintro r w1 ⟨rfl, hk⟩
  have HK := Lib.hid (HK.out.trans hk)
  clear hk
  go_wp2_with (fail)
  go_ret
  exact ⟨rfl, HK.out.below (Nat.le_refl _) (by simp)⟩

set_option maxHeartbeats 2000000 in
theorem walk_6 (w : World) : Calls Try.prog 9 #[.int .i64 6] w fun e w' => e = .returned (.bool true) ∧ Below w.heap.size w w' := by
  have HK := Lib.hid (Keeps.refl [] w)
  go_enter Try.func9, Try.ntmps9
  go_wp2_with (fail)
  refine (shown_any _).mono ?_
  rintro r w1 ⟨rfl, hk⟩
  have HK := Lib.hid (HK.out.trans hk)
  clear hk
  go_wp2_with (fail)
  refine (run_any 6 (by omega) [4, 5] _ 0 2 _ (ints2 _ _ _) (by simp) 6 0 (by decide)).mono ?_
  rintro r w1 ⟨rfl, hk⟩
  have HK := Lib.hid ((HK.out.alloc _).trans hk)
  clear hk
  go_wp2_with (fail)
  refine (run_any 6 (by omega) [5, 4] _ 0 2 _ (ints2 _ _ _) (by simp) 6 0 (by decide)).mono ?_
  rintro r w1 ⟨rfl, hk⟩
  have HK := Lib.hid ((HK.out.alloc _).trans hk)
  clear hk
  go_wp2_with (fail)
  refine (next_eq 6 6 0 140 (by decide) _).mono ?_
  rintro r w1 ⟨rfl, hk⟩
  have HK := Lib.hid (HK.out.trans hk)
  clear hk
  go_wp2_with (fail)
  refine (in_eq 6 false (by decide) _).mono ?_
  rintro r w1 ⟨rfl, hk⟩
  have HK := Lib.hid (HK.out.trans hk)
  clear hk
  go_wp2_with (fail)
  refine (isEnd_eq 6 true (by decide) _).mono ?_
  rintro r w1 ⟨rfl, hk⟩
  have HK := Lib.hid (HK.out.trans hk)
  clear hk
  go_wp2_with (fail)
  go_ret
  exact ⟨rfl, HK.out.below (Nat.le_refl _) (by simp)⟩

theorem walk (s : Int) {W : World} (_ : (Lit.int IntKind.i64 s).wf = true) (w : World) (hw : w = W) : Calls Try.prog 9 #[.int .i64 s] w fun e w' => e = .returned (.bool true) ∧ Below W.heap.size W w' := by
  subst hw
  by_cases h : 0 ≤ s ∧ s < 7
  · have hc : s = 0 ∨ s = 1 ∨ s = 2 ∨ s = 3 ∨ s = 4 ∨ s = 5 ∨ s = 6 := by omega
    rcases hc with rfl | rfl | rfl | rfl | rfl | rfl | rfl
    · exact walk_0 w
    · exact walk_1 w
    · exact walk_2 w
    · exact walk_3 w
    · exact walk_4 w
    · exact walk_5 w
    · exact walk_6 w
  · exact walk_bad w s h
theorem own : ownKnob Try.prog.godebug = none := by kernel_rfl

set_option maxRecDepth 100000 in
theorem lifted (os : Os) (started : os.Started) (H : Type) (enc : TypeId × Value → H) :
    ReturnsInHanded {} Try.checked os 9 .any (Rows.streamEitherSpec.pre6 enc Try.prog Try.f9 Rows.streamEitherRow.domain false) (Rows.streamEitherSpec.post enc Try.prog Try.f9 false true false false) := by
  refine returnsInHanded_of_change (C := Try.checked) own started (by kernel_rfl) Try.func9
    (ChangeSpec.witness6 (enc := enc) (C := Try.checked) false ⟨#[], #[.int .i64 0], []⟩ 8 (by kernel_rfl) (by kernel_rfl) (by kernel_rfl) (by kernel_rfl)) ?_
  intro W base args ds gs before hval0 hW hcnd _
  have hval : ∀ (j : Nat) t v, Try.f9.params[j]? = some t → args[j]? = some v → Value.okWide Try.prog W .any base t v := hval0
  have hW' := hW
  obtain ⟨p, q, hA0, hV, rfl, hfz, hnd⟩ := hW
  have hA : DataW.TrodAll enc Try.prog W 0 (fun _ => true) true Try.f9.params.toList args.toList ds p := hA0
  rw [Try.params9] at hA hval
  obtain ⟨v0, vs0, d0, ds0, p0, q0, hargs, rfl, rfl, h0, r0⟩ := trodAll_cons hA
  obtain ⟨rfl, rfl, rfl⟩ := trodAll_nil r0
  obtain rfl : args = #[v0] := by cases args; simp_all
  obtain ⟨rfl, rfl⟩ := trodVars_none hV
  obtain ⟨a0, rfl, rfl, rfl, w0⟩ := open_int Try.underlying3 (hval 0 3 v0 rfl rfl) h0
  refine (walk a0 w0 W rfl).mono fun e W' ⟨he, hb⟩ => ?_
  subst he
  exact ⟨_, rfl, law_post (by kernel_rfl) (by decide +kernel) rfl rfl Try.underlying4 hW' hb ⟨rfl, rfl, rfl⟩⟩

theorem over : Rows.streamEitherRow.holds Try.pinned (OpenSpec.ofChange Rows.streamEitherSpec) :=
  OpenClaim.holds_of_wide 9 Try.f9 rfl rfl rfl rfl rfl rfl rfl ⟨rfl, rfl, rfl, rfl, rfl⟩ rfl rfl rfl rfl rfl (by kernel_rfl) Try.func9 (by kernel_rfl)
    (of_decide_eq_true (by kernel_rfl)) (by unfold Func.isWrapper; first | (rw [if_pos (by decide +kernel)]; kernel_rfl) | (rw [if_neg (by decide +kernel)]; exact ⟨rfl, rfl⟩))
    (fun os started H enc _ => lifted os started H enc)

theorem proved : Rows.StreamEitherSaid := over

end streamEither
end Go.Proofs.Ytfgkfhchnnkonaa