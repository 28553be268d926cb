/- StreamLeast: all that is reached by events is no further than they are many: for every state and numbers. No condition. -/
import Derived.Test.YtfgkfhchnnkonaaStreamH
namespace Go.Proofs.Ytfgkfhchnnkonaa
open Go.RowKit

namespace streamLeast
open Go.ChangeShapes Go.WideShapes Go.ChangeAt
attribute [local go_sem ↓] Go.wp_at_zero Go.wp_at_succ

set_option maxHeartbeats 2000000 in
theorem walk_bad (a : Option Addr) (c : Nat) (xs : List Int) (w : World) (h : IntsArg w a c xs) (L : Nat) (hL : (xs.take 20).length = L) (st : Int) (hr : runA st (xs.take 20) = (0, 0, 2)) (hb : ¬ ((0 ≤ st ∧ st < 7) ∧ (0 ≤ (0 : Int) ∧ (0 : Int) < 7))) :
    Calls Try.prog 4 #[.int .i64 st, .slice a xs.length c] w fun e w' => e = .returned (.bool true) ∧ Below w.heap.size w w' := by
  have HL := Lib.hid hL
  have HX := Lib.hid h
  have hl20 : (xs.take 20).length ≤ 20 := by simp; omega
  have HL20 := Lib.hid hl20
  have HR := Lib.hid hr
  have HB := Lib.hid hb
  clear hr hb
  have HK := Lib.hid (Keeps.refl [] w)
  clear hl20 h hL
  go_enter Try.func4, Try.ntmps4
  go_wp2_with (fail)
  refine (shown_any _).mono ?_
  rintro r w1 ⟨rfl, hk⟩
  have HK := Lib.hid (HK.out.trans hk)
  clear hk
  go_wp2_with (fail)
  refine (few_any a c xs _ (HX.out.keeps HK.out)).mono ?_
  rintro r w1 ⟨rfl, rfl⟩
  rw [HL.out]
  go_wp2_with (fail)
  have hr1 := run_arg st a c (xs.take 20) _ ((HX.out.take 20).keeps HK.out) HL20.out _ _ _ HR.out
  rw [HL.out] at hr1
  refine hr1.mono ?_
  clear hr1
  rintro r w1 ⟨rfl, hk⟩
  have HK := Lib.hid (HK.out.trans hk)
  clear hk
  go_wp2_with (fail)
  refine (least_bad st 0 HB.out _).mono ?_
  rintro r w1 ⟨rfl, hk⟩
  have HK := Lib.hid (HK.out.trans hk)
  clear hk
  go_wp2_with (fail)
  go_ret
  exact ⟨rfl, HK.out.below (Nat.le_refl _) (by simp)⟩

set_option maxHeartbeats 2000000 in
theorem walk_self (a : Option Addr) (c : Nat) (xs : List Int) (w : World) (h : IntsArg w a c xs) (L : Nat) (hL : (xs.take 20).length = L) (st : Int) (n y : Nat) (hst : st = n) (hn : n ≤ 6) (hr : runA st (xs.take 20) = (st, (y : Int), 0)) (hd : ((dist n n).getD 0, (dist n n).isSome) = (0, true)) :
    Calls Try.prog 4 #[.int .i64 st, .slice a xs.length c] w fun e w' => e = .returned (.bool true) ∧ Below w.heap.size w w' := by
  have HL := Lib.hid hL
  have HX := Lib.hid h
  have hl20 : (xs.take 20).length ≤ 20 := by simp; omega
  have HL20 := Lib.hid hl20
  subst hst
  have HR := Lib.hid hr
  have HD := Lib.hid hd
  clear hr hd
  have HK := Lib.hid (Keeps.refl [] w)
  clear hl20 h hL
  go_enter Try.func4, Try.ntmps4
  go_wp2_with (fail)
  refine (shown_any _).mono ?_
  rintro r w1 ⟨rfl, hk⟩
  have HK := Lib.hid (HK.out.trans hk)
  clear hk
  go_wp2_with (fail)
  refine (few_any a c xs _ (HX.out.keeps HK.out)).mono ?_
  rintro r w1 ⟨rfl, rfl⟩
  rw [HL.out]
  go_wp2_with (fail)
  have hr1 := run_arg n a c (xs.take 20) _ ((HX.out.take 20).keeps HK.out) HL20.out _ _ _ HR.out
  rw [HL.out] at hr1
  refine hr1.mono ?_
  clear hr1
  rintro r w1 ⟨rfl, hk⟩
  have HK := Lib.hid (HK.out.trans hk)
  clear hk
  go_wp2_with (fail)
  refine (least_eq n n hn hn 0 true HD.out _).mono ?_
  rintro r w1 ⟨rfl, hk⟩
  have HK := Lib.hid (HK.out.trans hk)
  clear hk
  go_wp2_with (fail)
  go_ret
  exact ⟨rfl, HK.out.below (Nat.le_refl _) (by simp)⟩

set_option maxHeartbeats 2000000 in
theorem walk_other (a : Option Addr) (c : Nat) (xs : List Int) (w : World) (h : IntsArg w a c xs) (L : Nat) (hL : (xs.take 20).length = L) (st : Int) (n y s m : Nat) (hst : st = n) (hn : n ≤ 6) (hs : s ≤ 6) (hr : runA st (xs.take 20) = ((s : Int), (y : Int), 0)) (hd : ((dist n s).getD 0, (dist n s).isSome) = (m, true)) (hm : m ≤ y) (hy : y ≤ 20) (h0 : ((m : Int) == 0) = false) (hsn : ((s : Int) == n) = false) :
    Calls Try.prog 4 #[.int .i64 st, .slice a xs.length c] w fun e w' => e = .returned (.bool true) ∧ Below w.heap.size w w' := by
  have HL := Lib.hid hL
  have HX := Lib.hid h
  have hl20 : (xs.take 20).length ≤ 20 := by simp; omega
  have HL20 := Lib.hid hl20
  subst hst
  have HR := Lib.hid hr
  have HD := Lib.hid hd
  clear hr hd
  have HK := Lib.hid (Keeps.refl [] w)
  clear hl20 h hL
  go_enter Try.func4, Try.ntmps4
  go_wp2_with (fail)
  refine (shown_any _).mono ?_
  rintro r w1 ⟨rfl, hk⟩
  have HK := Lib.hid (HK.out.trans hk)
  clear hk
  go_wp2_with (fail)
  refine (few_any a c xs _ (HX.out.keeps HK.out)).mono ?_
  rintro r w1 ⟨rfl, rfl⟩
  rw [HL.out]
  go_wp2_with (fail)
  have hr1 := run_arg n a c (xs.take 20) _ ((HX.out.take 20).keeps HK.out) HL20.out _ _ _ HR.out
  rw [HL.out] at hr1
  refine hr1.mono ?_
  clear hr1
  rintro r w1 ⟨rfl, hk⟩
  have HK := Lib.hid (HK.out.trans hk)
  clear hk
  go_wp2_with (fail)
  refine (least_eq n s hn hs m true HD.out _).mono ?_
  rintro r w1 ⟨rfl, hk⟩
  have HK := Lib.hid (HK.out.trans hk)
  clear hk
  go_wp2_with (fail)
  go_ret
  exact ⟨rfl, HK.out.below (Nat.le_refl _) (by simp)⟩

theorem walk (st : Int) (a : Option Addr) (xs : List Int) (c : Nat) {W : World} (_ : (Lit.int IntKind.i64 st).wf = true) (h : IntsArg W a c xs) (w : World) (hw : w = W) :
    Calls Try.prog 4 #[.int .i64 st, .slice a xs.length c] w fun e w' => e = .returned (.bool true) ∧ Below W.heap.size W w' := by
  subst hw
  by_cases hs : 0 ≤ st ∧ st < 7
  · obtain ⟨n, rfl⟩ : ∃ n : Nat, st = n := ⟨st.toNat, by omega⟩
    have hn : n ≤ 6 := by omega
    have hr : runA n (xs.take 20) = (((runS n (xs.take 20)).1 : Int), ((runS n (xs.take 20)).2 : Int), 0) := by
      unfold runA; rw [if_pos (by omega), Int.toNat_natCast]
    obtain ⟨m, hm, hle⟩ := dist_run (xs.take 20) n hn
    have hb := runS_le (xs.take 20) n hn
    have hl : (xs.take 20).length ≤ 20 := by simp; omega
    obtain ⟨s, y, hsy⟩ : ∃ s y, runS n (xs.take 20) = (s, y) := ⟨_, _, rfl⟩
    rw [hsy] at hr hm hle hb
    dsimp only at hr hm hle hb
    have hz := dist_zero n hn s hb.1
    by_cases h0 : s = n
    · subst h0
      have : dist s s = some 0 := dist_self s hn
      exact walk_self a c xs w h _ rfl _ s y rfl hn hr (by rw [this]; rfl)
    · have hm0 : m ≠ 0 := by
        rintro rfl
        exact h0 (hz.1 hm)
      exact walk_other a c xs w h _ rfl _ n y s m rfl hn hb.1 hr (by rw [hm]; rfl) hle (by omega) (by simp; omega) (by simp; omega)
  · exact walk_bad a c xs w h _ rfl st (if_neg hs) (fun hh => hs hh.1)

theorem own : ownKnob Try.prog.godebug = none := by kernel_rfl

set_option maxRecDepth 100000 in
theorem lifted (os : Os) (started : os.Started) (H : Type) (enc : TypeId × Value → H) :
    ReturnsInHanded {} Try.checked os 4 .any (Rows.streamLeastSpec.pre6 enc Try.prog Try.f4 Rows.streamLeastRow.domain false) (Rows.streamLeastSpec.post enc Try.prog Try.f4 false true false false) := by
  refine returnsInHanded_of_change (C := Try.checked) own started (by kernel_rfl) Try.func4
    (ChangeSpec.witness6 (enc := enc) (C := Try.checked) false ⟨#[], #[.int .i64 0, .slice none 0 0], []⟩ 8 (by kernel_rfl) (by kernel_rfl) (by kernel_rfl) (by kernel_rfl)) ?_
  intro W base args ds gs before hval0 hW hcnd _
  have hval : ∀ (j : Nat) t v, Try.f4.params[j]? = some t → args[j]? = some v → Value.okWide Try.prog W .any base t v := hval0
  have hW' := hW
  obtain ⟨p, q, hA0, hV, rfl, hfz, hnd⟩ := hW
  have hA : DataW.TrodAll enc Try.prog W 0 (fun _ => true) true Try.f4.params.toList args.toList ds p := hA0
  rw [Try.params4] at hA hval
  obtain ⟨v0, vs0, d0, ds0, p0, q0, hargs, rfl, rfl, h0, r0⟩ := trodAll_cons hA
  obtain ⟨v1, vs1, d1, ds1, p1, q1, rfl, rfl, rfl, h1, r1⟩ := trodAll_cons r0
  obtain ⟨rfl, rfl, rfl⟩ := trodAll_nil r1
  obtain rfl : args = #[v0, v1] := by cases args; simp_all
  obtain ⟨rfl, rfl⟩ := trodVars_none hV
  obtain ⟨a0, rfl, rfl, rfl, w0⟩ := open_int Try.underlying3 (hval 0 3 v0 rfl rfl) h0
  obtain ⟨a1, xs1, c1, rfl, w1⟩ := open_nums (hval 1 22 v1 rfl rfl) h1
  refine (walk a0 a1 xs1 c1 w0 w1 W rfl).mono fun e W' ⟨he, hb⟩ => ?_
  subst he
  exact ⟨_, rfl, law_post (by kernel_rfl) (by decide +kernel) rfl rfl Try.underlying4 hW' hb ⟨rfl, rfl, rfl⟩⟩

theorem over : Rows.streamLeastRow.holds Try.pinned (OpenSpec.ofChange Rows.streamLeastSpec) :=
  OpenClaim.holds_of_wide 4 Try.f4 rfl rfl rfl rfl rfl rfl rfl ⟨rfl, rfl, rfl, rfl, rfl⟩ rfl rfl rfl rfl rfl (by kernel_rfl) Try.func4 (by kernel_rfl)
    (of_decide_eq_true (by kernel_rfl)) (by unfold Func.isWrapper; first | (rw [if_pos (by decide +kernel)]; kernel_rfl) | (rw [if_neg (by decide +kernel)]; exact ⟨rfl, rfl⟩))
    (fun os started H enc _ => lifted os started H enc)

theorem proved : Rows.StreamLeastSaid := over

end streamLeast
end Go.Proofs.Ytfgkfhchnnkonaa
