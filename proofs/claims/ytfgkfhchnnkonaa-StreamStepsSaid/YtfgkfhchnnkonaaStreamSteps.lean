/- StreamSteps: states behind events, what may go on, what is an end, how far one is: for any two numbers, and numbers. No condition. -/
import Derived.Test.YtfgkfhchnnkonaaStreamS
namespace Go.Proofs.Ytfgkfhchnnkonaa
open Go.RowKit

namespace streamSteps
open Go.ChangeShapes Go.WideShapes Go.ChangeAt
attribute [local go_sem ↓] Go.wp_at_zero Go.wp_at_succ

set_option maxHeartbeats 4000000 in
theorem walk_all (st ev : Int) (a : Option Addr) (c : Nat) (xs : List Int) (w : World) (h : IntsArg w a c xs) (L : Nat) (hL : (xs.take 20).length = L) (n1 n2 : Int) (hn : nextA st ev = (n1, n2)) (r1 r2 r3 : Int) (hr : runA st (xs.take 20) = (r1, r2, r3)) (l1 : Int) (l2 : Bool) (hl : leastA st ev = (l1, l2)) (b1 b2 b3 : Bool) (h1 : (decide (st = 2) || decide (st = 4)) = b1) (h2 : (decide (st = 2) || decide (st = 3)) = b2) (h3 : (decide (st = 5) || decide (st = 6)) = b3) :
    Calls Try.prog 6 #[.int .i64 st, .int .i64 ev, .slice a xs.length c] w fun e w' => e = .returned (.bool true) ∧ Below w.heap.size w w' := by
  have HL := Lib.hid hL
  have HX := Lib.hid h
  have hl20 : (xs.take 20).length ≤ 20 := by simp; omega
  have HL20 := Lib.hid hl20
  have HN := Lib.hid hn
  have HR := Lib.hid hr
  have HQ := Lib.hid hl
  have H1 := Lib.hid h1
  have H2 := Lib.hid h2
  have H3 := Lib.hid h3
  have HK := Lib.hid (Keeps.refl [] w)
  clear hl20 h hL hn hr hl h1 h2 h3
  go_enter Try.func6, Try.ntmps6
  go_wp2_with (fail)
  refine (shown_any _).mono ?_
  rintro r w1 ⟨rfl, hk⟩
  have HK := Lib.hid (HK.out.trans hk)
  clear hk
  go_wp2_with (fail)
  refine (few_any a c xs _ (HX.out.keeps HK.out)).mono ?_
  rintro r w1 ⟨rfl, rfl⟩
  rw [HL.out]
  go_wp2_with (fail)
  refine (next_eq _ _ _ _ HN.out _).mono ?_
  rintro r w1 ⟨rfl, hk⟩
  have HK := Lib.hid (HK.out.trans hk)
  clear hk
  go_wp2_with (fail)
  refine (rnext_any _ _ _ _ HN.out _).mono ?_
  rintro r w1 ⟨rfl, rfl⟩
  go_wp2_with (fail)
  have hr1 := run_arg st a c (xs.take 20) _ ((HX.out.take 20).keeps HK.out) HL20.out _ _ _ HR.out
  rw [HL.out] at hr1
  refine hr1.mono ?_
  clear hr1
  rintro r w1 ⟨rfl, hk⟩
  have HK := Lib.hid (HK.out.trans hk)
  clear hk
  go_wp2_with (fail)
  have hr1 := rrun_arg st a c (xs.take 20) _ ((HX.out.take 20).keeps HK.out) HL20.out _ _ _ HR.out
  rw [HL.out] at hr1
  refine hr1.mono ?_
  clear hr1
  rintro r w1 ⟨rfl, rfl⟩
  go_wp2_with (fail)
  refine (least_all _ _ _ _ HQ.out _).mono ?_
  rintro r w1 ⟨rfl, hk⟩
  have HK := Lib.hid (HK.out.trans hk)
  clear hk
  go_wp2_with (fail)
  refine (rleast_eq _ _ _ _ HQ.out _).mono ?_
  rintro r w1 ⟨rfl, hk⟩
  have HK := Lib.hid (HK.out.trans hk)
  clear hk
  go_wp2_with (fail)
  refine (in_eq _ _ H1.out _).mono ?_
  rintro r w1 ⟨rfl, hk⟩
  have HK := Lib.hid (HK.out.trans hk)
  clear hk
  go_wp2_with (fail)
  refine (rin_any _ _ H1.out _).mono ?_
  rintro r w1 ⟨rfl, rfl⟩
  go_wp2_with (fail)
  refine (out_eq _ _ H2.out _).mono ?_
  rintro r w1 ⟨rfl, hk⟩
  have HK := Lib.hid (HK.out.trans hk)
  clear hk
  go_wp2_with (fail)
  refine (rout_any _ _ H2.out _).mono ?_
  rintro r w1 ⟨rfl, rfl⟩
  go_wp2_with (fail)
  refine (isEnd_eq _ _ H3.out _).mono ?_
  rintro r w1 ⟨rfl, hk⟩
  have HK := Lib.hid (HK.out.trans hk)
  clear hk
  go_wp2_with (fail)
  refine (risEnd_any _ _ H3.out _).mono ?_
  rintro r w1 ⟨rfl, rfl⟩
  go_wp2_with (fail)
  go_ret
  exact ⟨rfl, HK.out.below (Nat.le_refl _) (by simp)⟩

theorem walk (st ev : Int) (a : Option Addr) (xs : List Int) (c : Nat) {W : World} (_ : (Lit.int IntKind.i64 st).wf = true) (_ : (Lit.int IntKind.i64 ev).wf = true) (h : IntsArg W a c xs) (w : World) (hw : w = W) :
    Calls Try.prog 6 #[.int .i64 st, .int .i64 ev, .slice a xs.length c] w fun e w' => e = .returned (.bool true) ∧ Below W.heap.size W w' := by
  subst hw
  exact walk_all st ev a c xs w h _ rfl _ _ rfl _ _ _ rfl _ _ rfl _ _ _ rfl rfl rfl

theorem own : ownKnob Try.prog.godebug = none := by kernel_rfl

set_option maxRecDepth 100000 in
theorem lifted (os : Os) (started : os.Started) (H : Type) (enc : TypeId × Value → H) :
    ReturnsInHanded {} Try.checked os 6 .any (Rows.streamStepsSpec.pre6 enc Try.prog Try.f6 Rows.streamStepsRow.domain false) (Rows.streamStepsSpec.post enc Try.prog Try.f6 false true false false) := by
  refine returnsInHanded_of_change (C := Try.checked) own started (by kernel_rfl) Try.func6
    (ChangeSpec.witness6 (enc := enc) (C := Try.checked) false ⟨#[], #[.int .i64 0, .int .i64 0, .slice none 0 0], []⟩ 8 (by kernel_rfl) (by kernel_rfl) (by kernel_rfl) (by kernel_rfl)) ?_
  intro W base args ds gs before hval0 hW hcnd _
  have hval : ∀ (j : Nat) t v, Try.f6.params[j]? = some t → args[j]? = some v → Value.okWide Try.prog W .any base t v := hval0
  have hW' := hW
  obtain ⟨p, q, hA0, hV, rfl, hfz, hnd⟩ := hW
  have hA : DataW.TrodAll enc Try.prog W 0 (fun _ => true) true Try.f6.params.toList args.toList ds p := hA0
  rw [Try.params6] at hA hval
  obtain ⟨v0, vs0, d0, ds0, p0, q0, hargs, rfl, rfl, h0, r0⟩ := trodAll_cons hA
  obtain ⟨v1, vs1, d1, ds1, p1, q1, rfl, rfl, rfl, h1, r1⟩ := trodAll_cons r0
  obtain ⟨v2, vs2, d2, ds2, p2, q2, rfl, rfl, rfl, h2, r2⟩ := trodAll_cons r1
  obtain ⟨rfl, rfl, rfl⟩ := trodAll_nil r2
  obtain rfl : args = #[v0, v1, v2] := by cases args; simp_all
  obtain ⟨rfl, rfl⟩ := trodVars_none hV
  obtain ⟨a0, rfl, rfl, rfl, w0⟩ := open_int Try.underlying3 (hval 0 3 v0 rfl rfl) h0
  obtain ⟨a1, rfl, rfl, rfl, w1⟩ := open_int Try.underlying3 (hval 1 3 v1 rfl rfl) h1
  obtain ⟨a2, xs2, c2, rfl, w2⟩ := open_nums (hval 2 22 v2 rfl rfl) h2
  refine (walk a0 a1 a2 xs2 c2 w0 w1 w2 W rfl).mono fun e W' ⟨he, hb⟩ => ?_
  subst he
  exact ⟨_, rfl, law_post (by kernel_rfl) (by decide +kernel) rfl rfl Try.underlying4 hW' hb ⟨rfl, rfl, rfl⟩⟩

theorem over : Rows.streamStepsRow.holds Try.pinned (OpenSpec.ofChange Rows.streamStepsSpec) :=
  OpenClaim.holds_of_wide 6 Try.f6 rfl rfl rfl rfl rfl rfl rfl ⟨rfl, rfl, rfl, rfl, rfl⟩ rfl rfl rfl rfl rfl (by kernel_rfl) Try.func6 (by kernel_rfl)
    (of_decide_eq_true (by kernel_rfl)) (by unfold Func.isWrapper; first | (rw [if_pos (by decide +kernel)]; kernel_rfl) | (rw [if_neg (by decide +kernel)]; exact ⟨rfl, rfl⟩))
    (fun os started H enc _ => lifted os started H enc)

theorem proved : Rows.StreamStepsSaid := over

end streamSteps
end Go.Proofs.Ytfgkfhchnnkonaa
