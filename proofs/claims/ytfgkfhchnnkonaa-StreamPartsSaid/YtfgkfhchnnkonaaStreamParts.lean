/- StreamParts: events one by one come to where they come at once: for every state, numbers and place. No condition. -/
import Derived.Test.YtfgkfhchnnkonaaStreamH
namespace Go.Proofs.Ytfgkfhchnnkonaa
open Go.RowKit

theorem add_out (a : Option Addr) (c k : Nat) {w : World} {xs : List Int} (h : IntsArg w a c xs) (hk : k ≤ xs.length) :
    ∃ a' c', (∀ W, (Instr.slice 22 (.slice a xs.length c) (some (.int .i64 (k : Int))) none none).run Try.prog W = .ok (.slice a' (xs.drop k).length c') W) ∧ IntsArg w a' c' (xs.drop k) := by
  refine ⟨if c = k then a else a.map (·.add (k * 1)), c - k, fun W => ?_, ?_, ?_, fun hn => ?_⟩
  · have h := run_slice_l (P := Try.prog) W 22 a xs.length c tints_elem .i64 (k : Int) (by omega) (by omega)
    rw [h, tints_size]
    show Result.ok (sliced a (k : Int).toNat xs.length c 1) W = _
    unfold sliced
    simp
  · have := h.le; simp; omega
  · have := h.small; simp; omega
  · have hlt : k < xs.length := by
      rcases Nat.lt_or_ge k xs.length with h | h
      · exact h
      · rw [List.drop_eq_nil_of_le h] at hn; exact absurd rfl hn
    have hle := h.le
    obtain ⟨b, off, rfl, hb, hat⟩ := h.at_ (by rintro rfl; simp at hlt)
    refine ⟨b, off + k, ?_, hb, fun i hi => ?_⟩
    · rw [if_neg (by omega)]
      simp only [Option.map, Nat.mul_one]
      unfold Addr.add; split <;> simp_all
    · have := hat (k + i) (by simp at hi; omega)
      rw [← Nat.add_assoc] at this
      rw [this]; simp

namespace streamParts
open Go.ChangeShapes Go.WideShapes Go.ChangeAt
attribute [local go_sem ↓] Go.wp_at_zero Go.wp_at_succ

set_option maxHeartbeats 2000000 in
theorem walk_out (s : Int) (a : Option Addr) (c : Nat) (xs : List Int) (m : Int) (w : World) (h : IntsArg w a c xs) (L : Nat) (hL : (xs.take 20).length = L) (hm : m < 0 ∨ (L : Int) < m) :
    Calls Try.prog 3 #[.int .i64 s, .slice a xs.length c, .int .i64 m] w fun e w' => e = .returned (.bool true) ∧ Below w.heap.size w w' := by
  have HL := Lib.hid hL
  clear hL
  rcases hm with hm | hm
  all_goals
    have HK := Lib.hid (Keeps.refl [] w)
    have HX := Lib.hid h
    clear h
    go_enter Try.func3, Try.ntmps3
    go_wp2_with (fail)
    refine (shown_any _).mono ?_
    rintro r w1 ⟨rfl, hk⟩
    have HK := Lib.hid (HK.out.trans hk)
    clear hk
    go_wp2_with (fail)
    refine (few_any a c xs _ (HX.out.keeps HK.out)).mono ?_
    rintro r w1 ⟨rfl, rfl⟩
    rw [HL.out]
    go_wp2_with (fail)
    go_ret
    exact ⟨rfl, HK.out.below (Nat.le_refl _) (by simp)⟩

set_option maxHeartbeats 2000000 in
theorem walk_bad (s : Int) (hs : ¬ (0 ≤ s ∧ s < 7)) (a : Option Addr) (c : Nat) (xs : List Int) (m : Nat) (w : World) (h : IntsArg w a c xs) (L : Nat) (hL : (xs.take 20).length = L) (hm : m ≤ L) :
    Calls Try.prog 3 #[.int .i64 s, .slice a xs.length c, .int .i64 m] w fun e w' => e = .returned (.bool true) ∧ Below w.heap.size w w' := by
  have HL := Lib.hid hL
  have HS := Lib.hid hs
  have hsl := slice_to a L c m (by have := (h.take 20).le; omega)
  clear hL hs
  have hm1 : ¬ (L : Int) < (m : Int) := by omega
  have hm2 : ¬ (m : Int) < 0 := by omega
  have HK := Lib.hid (Keeps.refl [] w)
  have HX := Lib.hid h
  clear h
  go_enter Try.func3, Try.ntmps3
  go_wp2_with (fail)
  refine (shown_any _).mono ?_
  rintro r w1 ⟨rfl, hk⟩
  have HK := Lib.hid (HK.out.trans hk)
  clear hk
  go_wp2_with (fail)
  refine (few_any a c xs _ (HX.out.keeps HK.out)).mono ?_
  rintro r w1 ⟨rfl, rfl⟩
  rw [HL.out]
  go_wp2_with (fail)
  refine (run_bad s _ HS.out _).mono ?_
  rintro r w1 ⟨rfl, hk⟩
  have HK := Lib.hid (HK.out.trans hk)
  clear hk
  go_wp2_with (fail)
  refine (run_bad s _ HS.out _).mono ?_
  rintro r w1 ⟨rfl, hk⟩
  have HK := Lib.hid (HK.out.trans hk)
  clear hk
  go_wp2_with (fail)
  go_ret
  exact ⟨rfl, HK.out.below (Nat.le_refl _) (by simp)⟩


set_option maxHeartbeats 2000000 in
theorem walk_less (s : Nat) (a : Option Addr) (c : Nat) (xs : List Int) (m : Nat) (w : World) (h : IntsArg w a c xs) (L : Nat) (hL : (xs.take 20).length = L) (hm : m ≤ L) (x y : Nat)
    (h1 : runA s (xs.take 20) = ((x : Int), (y : Int), 0)) (h2 : runA s ((xs.take 20).take m) = ((x : Int), (y : Int), 0)) (hy : y < m) :
    Calls Try.prog 3 #[.int .i64 s, .slice a xs.length c, .int .i64 m] w fun e w' => e = .returned (.bool true) ∧ Below w.heap.size w w' := by
  have HL := Lib.hid hL
  have H1 := Lib.hid h1
  have H2 := Lib.hid h2
  have hl20 : (xs.take 20).length ≤ 20 := by simp; omega
  have HL20 := Lib.hid hl20
  have hlm : ((xs.take 20).take m).length = m := by simp at hL ⊢; omega
  have HLM := Lib.hid hlm
  have hsl := slice_to a L c m (by have := (h.take 20).le; omega)
  have HXX := Lib.hid h
  have hlt : (y : Int) < (m : Int) := by omega
  clear hL h1 h2 hl20 hlm hy
  have hm1 : ¬ (L : Int) < (m : Int) := by omega
  have hm2 : ¬ (m : Int) < 0 := by omega
  have HK := Lib.hid (Keeps.refl [] w)
  have HX := Lib.hid h
  clear h
  go_enter Try.func3, Try.ntmps3
  go_wp2_with (fail)
  refine (shown_any _).mono ?_
  rintro r w1 ⟨rfl, hk⟩
  have HK := Lib.hid (HK.out.trans hk)
  clear hk
  go_wp2_with (fail)
  refine (few_any a c xs _ (HX.out.keeps HK.out)).mono ?_
  rintro r w1 ⟨rfl, rfl⟩
  rw [HL.out]
  go_wp2_with (fail)
  have hr1 := run_arg s a c (xs.take 20) _ ((HXX.out.take 20).keeps HK.out) HL20.out _ _ _ H1.out
  rw [HL.out] at hr1
  refine hr1.mono ?_
  clear hr1
  rintro r w1 ⟨rfl, hk⟩
  have HK := Lib.hid (HK.out.trans hk)
  clear hk
  go_wp2_with (fail)
  have hr1 := run_arg s a c ((xs.take 20).take m) _ (((HXX.out.take 20).take m).keeps HK.out) (by rw [HLM.out]; have := HL.out; have := HL20.out; omega) _ _ _ H2.out
  rw [HLM.out] at hr1
  refine hr1.mono ?_
  clear hr1
  rintro r w1 ⟨rfl, hk⟩
  have HK := Lib.hid (HK.out.trans hk)
  clear hk
  go_wp2_with (fail)
  go_ret
  exact ⟨rfl, HK.out.below (Nat.le_refl _) (by simp)⟩


set_option maxHeartbeats 2000000 in
theorem walk_more (s : Nat) (a : Option Addr) (c : Nat) (xs : List Int) (m : Nat) (w : World) (h : IntsArg w a c xs) (L : Nat) (hL : (xs.take 20).length = L) (hm : m ≤ L) (x p k : Nat) (hk20 : k ≤ 20)
    (h1 : runA s (xs.take 20) = ((x : Int), (m : Int) + (k : Int), 0)) (h2 : runA s ((xs.take 20).take m) = ((p : Int), (m : Int), 0)) (h3 : runA p ((xs.take 20).drop m) = ((x : Int), (k : Int), 0)) :
    Calls Try.prog 3 #[.int .i64 s, .slice a xs.length c, .int .i64 m] w fun e w' => e = .returned (.bool true) ∧ Below w.heap.size w w' := by
  have HL := Lib.hid hL
  have H1 := Lib.hid h1
  have H2 := Lib.hid h2
  have H3 := Lib.hid h3
  have hl20 : (xs.take 20).length ≤ 20 := by simp; omega
  have HL20 := Lib.hid hl20
  have hm20 : (m : Int) ≤ 20 := by omega
  have hk20i : (k : Int) ≤ 20 := by omega
  have hk0 : (0 : Int) ≤ (k : Int) := by omega
  have hm0 : (0 : Int) ≤ (m : Int) := by omega
  have hself : ¬ ((m : Int) < (m : Int)) := by omega
  have hsum : ((m : Int) + (k : Int) == (m : Int) + (k : Int)) = true := by simp
  have hxx : ((x : Int) == (x : Int)) = true := by simp
  clear hk20
  have hlm : ((xs.take 20).take m).length = m := by simp at hL ⊢; omega
  have HLM := Lib.hid hlm
  have hsl := slice_to a L c m (by have := (h.take 20).le; omega)
  obtain ⟨a', c', hsl2, hx2⟩ := add_out a c m (h.take 20) (by omega)
  obtain ⟨Q, hQ⟩ : ∃ Q, ((xs.take 20).drop m).length = Q := ⟨_, rfl⟩
  rw [hL, hQ] at hsl2
  have HQ := Lib.hid hQ
  clear hQ
  have HX2 := Lib.hid hx2
  have HXX := Lib.hid h
  clear hL h1 h2 h3 hl20 hlm hx2
  have hm1 : ¬ (L : Int) < (m : Int) := by omega
  have hm2 : ¬ (m : Int) < 0 := by omega
  have HK := Lib.hid (Keeps.refl [] w)
  have HX := Lib.hid h
  clear h
  go_enter Try.func3, Try.ntmps3
  go_wp2_with (fail)
  refine (shown_any _).mono ?_
  rintro r w1 ⟨rfl, hk⟩
  have HK := Lib.hid (HK.out.trans hk)
  clear hk
  go_wp2_with (fail)
  refine (few_any a c xs _ (HX.out.keeps HK.out)).mono ?_
  rintro r w1 ⟨rfl, rfl⟩
  rw [HL.out]
  go_wp2_with (fail)
  have hr1 := run_arg s a c (xs.take 20) _ ((HXX.out.take 20).keeps HK.out) HL20.out _ _ _ H1.out
  rw [HL.out] at hr1
  refine hr1.mono ?_
  clear hr1
  rintro r w1 ⟨rfl, hk⟩
  have HK := Lib.hid (HK.out.trans hk)
  clear hk
  go_wp2_with (fail)
  have hr1 := run_arg s a c ((xs.take 20).take m) _ (((HXX.out.take 20).take m).keeps HK.out) (by rw [HLM.out]; have := HL.out; have := HL20.out; omega) _ _ _ H2.out
  rw [HLM.out] at hr1
  refine hr1.mono ?_
  clear hr1
  rintro r w1 ⟨rfl, hk⟩
  have HK := Lib.hid (HK.out.trans hk)
  clear hk
  go_wp2_with (fail)
  have hr1 := run_arg p a' c' _ _ (HX2.out.keeps HK.out) (by have := HL20.out; rw [List.length_drop]; omega) _ _ _ H3.out
  rw [HQ.out] at hr1
  refine hr1.mono ?_
  clear hr1
  rintro r w1 ⟨rfl, hk⟩
  have HK := Lib.hid (HK.out.trans hk)
  clear hk
  go_wp2_with (fail)
  go_ret
  exact ⟨rfl, HK.out.below (Nat.le_refl _) (by simp)⟩


theorem walk (s : Int) (a : Option Addr) (xs : List Int) (c : Nat) (m : Int) {W : World} (_ : (Lit.int IntKind.i64 s).wf = true) (h : IntsArg W a c xs) (_ : (Lit.int IntKind.i64 m).wf = true) (w : World) (hw : w = W) :
    Calls Try.prog 3 #[.int .i64 s, .slice a xs.length c, .int .i64 m] w fun e w' => e = .returned (.bool true) ∧ Below W.heap.size W w' := by
  subst hw
  obtain ⟨L, hL⟩ : ∃ L, (xs.take 20).length = L := ⟨_, rfl⟩
  by_cases hm : m < 0 ∨ (L : Int) < m
  · exact walk_out s a c xs m w h L hL hm
  · obtain ⟨k, rfl⟩ : ∃ k : Nat, m = k := ⟨m.toNat, by omega⟩
    have hkL : k ≤ L := by omega
    by_cases hs : 0 ≤ s ∧ s < 7
    · obtain ⟨n, rfl⟩ : ∃ n : Nat, s = n := ⟨s.toNat, by omega⟩
      have hn : n ≤ 6 := by omega
      have hA : ∀ (q : Nat) (l : List Int), q ≤ 6 → runA q l = (((runS q l).1 : Int), ((runS q l).2 : Int), 0) := fun q l hq => by
        unfold runA; rw [if_pos (by omega), Int.toNat_natCast]
      have hp := runS_parts (xs.take 20) n k (by omega)
      have hle := runS_le ((xs.take 20).take k) n hn
      by_cases hlt : (runS n ((xs.take 20).take k)).2 < k
      · have he := hp.1 hlt
        exact walk_less n a c xs k w h L hL hkL _ _ (by rw [hA n _ hn, he]) (hA n _ hn) hlt
      · have he := hp.2 hlt
        have hk : (runS n ((xs.take 20).take k)).2 = k := by
          have := hle.2
          rw [List.length_take] at this; omega
        have hle2 := runS_le ((xs.take 20).drop k) _ hle.1
        refine walk_more n a c xs k w h L hL hkL _ _ _ (by have := hle2.2; simp at this; omega) ?_ ?_ (hA _ _ hle.1)
        · rw [hA n _ hn, he]; simp
        · rw [hA n _ hn, hk]
    · exact walk_bad s hs a c xs k w h L hL hkL
theorem own : ownKnob Try.prog.godebug = none := by kernel_rfl

set_option maxRecDepth 100000 in
theorem lifted (os : Os) (started : os.Started) (H : Type) (enc : TypeId × Value → H) :
    ReturnsInHanded {} Try.checked os 3 .any (Rows.streamPartsSpec.pre6 enc Try.prog Try.f3 Rows.streamPartsRow.domain false) (Rows.streamPartsSpec.post enc Try.prog Try.f3 false true false false) := by
  refine returnsInHanded_of_change (C := Try.checked) own started (by kernel_rfl) Try.func3
    (ChangeSpec.witness6 (enc := enc) (C := Try.checked) false ⟨#[], #[.int .i64 0, .slice none 0 0, .int .i64 0], []⟩ 8 (by kernel_rfl) (by kernel_rfl) (by kernel_rfl) (by kernel_rfl)) ?_
  intro W base args ds gs before hval0 hW hcnd _
  have hval : ∀ (j : Nat) t v, Try.f3.params[j]? = some t → args[j]? = some v → Value.okWide Try.prog W .any base t v := hval0
  have hW' := hW
  obtain ⟨p, q, hA0, hV, rfl, hfz, hnd⟩ := hW
  have hA : DataW.TrodAll enc Try.prog W 0 (fun _ => true) true Try.f3.params.toList args.toList ds p := hA0
  rw [Try.params3] at hA hval
  obtain ⟨v0, vs0, d0, ds0, p0, q0, hargs, rfl, rfl, h0, r0⟩ := trodAll_cons hA
  obtain ⟨v1, vs1, d1, ds1, p1, q1, rfl, rfl, rfl, h1, r1⟩ := trodAll_cons r0
  obtain ⟨v2, vs2, d2, ds2, p2, q2, rfl, rfl, rfl, h2, r2⟩ := trodAll_cons r1
  obtain ⟨rfl, rfl, rfl⟩ := trodAll_nil r2
  obtain rfl : args = #[v0, v1, v2] := by cases args; simp_all
  obtain ⟨rfl, rfl⟩ := trodVars_none hV
  obtain ⟨a0, rfl, rfl, rfl, w0⟩ := open_int Try.underlying3 (hval 0 3 v0 rfl rfl) h0
  obtain ⟨a1, xs1, c1, rfl, w1⟩ := open_nums (hval 1 22 v1 rfl rfl) h1
  obtain ⟨a2, rfl, rfl, rfl, w2⟩ := open_int Try.underlying3 (hval 2 3 v2 rfl rfl) h2
  refine (walk a0 a1 xs1 c1 a2 w0 w1 w2 W rfl).mono fun e W' ⟨he, hb⟩ => ?_
  subst he
  exact ⟨_, rfl, law_post (by kernel_rfl) (by decide +kernel) rfl rfl Try.underlying4 hW' hb ⟨rfl, rfl, rfl⟩⟩

theorem over : Rows.streamPartsRow.holds Try.pinned (OpenSpec.ofChange Rows.streamPartsSpec) :=
  OpenClaim.holds_of_wide 3 Try.f3 rfl rfl rfl rfl rfl rfl rfl ⟨rfl, rfl, rfl, rfl, rfl⟩ rfl rfl rfl rfl rfl (by kernel_rfl) Try.func3 (by kernel_rfl)
    (of_decide_eq_true (by kernel_rfl)) (by unfold Func.isWrapper; first | (rw [if_pos (by decide +kernel)]; kernel_rfl) | (rw [if_neg (by decide +kernel)]; exact ⟨rfl, rfl⟩))
    (fun os started H enc _ => lifted os started H enc)

theorem proved : Rows.StreamPartsSaid := over

end streamParts
end Go.Proofs.Ytfgkfhchnnkonaa
