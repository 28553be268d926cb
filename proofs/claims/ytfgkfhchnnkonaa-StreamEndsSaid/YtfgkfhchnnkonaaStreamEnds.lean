/- StreamEnds: at most four events happen, and none in an end; from each state that is none an end is reached: for every state and numbers. No condition. -/
import Derived.Test.YtfgkfhchnnkonaaStreamH
namespace Go.Proofs.Ytfgkfhchnnkonaa
open Go.RowKit

/-- How far a state is on its way. -/
def rank (s : Nat) : Nat := if s = 0 then 0 else if s = 1 then 1 else if s = 2 then 2 else if s = 3 ∨ s = 4 then 3 else 4
theorem nxt_rank {s : Nat} {e : Int} {t : Nat} (h : nxt s e = some t) : rank s + 1 ≤ rank t := by
  unfold nxt at h
  unfold rank
  repeat' split at h
  all_goals first | (cases h; done) | skip
  all_goals
    obtain rfl := (Option.some.inj h).symm
    repeat' split
    all_goals omega
theorem rank_le (s : Nat) : rank s ≤ 4 := by
  unfold rank
  repeat' split
  all_goals omega
theorem runS_rank (l : List Int) : ∀ s, rank s + (runS s l).2 ≤ rank (runS s l).1 := by
  induction l with
  | nil => intro s; exact Nat.le_refl _
  | cons e l ih =>
    intro s
    unfold runS
    cases h : nxt s e with
    | none => exact Nat.le_refl _
    | some u =>
      have h1 := ih u
      have h2 := nxt_rank h
      dsimp only
      omega

namespace streamEnds
open Go.ChangeShapes Go.WideShapes Go.ChangeAt
attribute [local go_sem ↓] Go.wp_at_zero Go.wp_at_succ

set_option maxHeartbeats 2000000 in
theorem walk_bad (a : Option Addr) (c : Nat) (xs : List Int) (w : World) (h : IntsArg w a c xs) (L : Nat) (hL : (xs.take 20).length = L) (st : Int) (hr : runA st (xs.take 20) = (0, 0, 2)) :
    Calls Try.prog 7 #[.int .i64 st, .slice a xs.length c] w fun e w' => e = .returned (.bool true) ∧ Below w.heap.size w w' := by
  have HL := Lib.hid hL
  have HX := Lib.hid h
  have hl20 : (xs.take 20).length ≤ 20 := by simp; omega
  have HL20 := Lib.hid hl20
  have HR := Lib.hid hr
  clear hr
  have HK := Lib.hid (Keeps.refl [] w)
  clear hl20 h hL
  go_enter Try.func7, Try.ntmps7
  go_wp2_with (fail)
  refine (shown_any _).mono ?_
  rintro r w1 ⟨rfl, hk⟩
  have HK := Lib.hid (HK.out.trans hk)
  clear hk
  go_wp2_with (fail)
  refine (few_any a c xs _ (HX.out.keeps HK.out)).mono ?_
  rintro r w1 ⟨rfl, rfl⟩
  rw [HL.out]
  go_wp2_with (fail)
  have hr1 := run_arg st a c (xs.take 20) _ ((HX.out.take 20).keeps HK.out) HL20.out _ _ _ HR.out
  rw [HL.out] at hr1
  refine hr1.mono ?_
  clear hr1
  rintro r w1 ⟨rfl, hk⟩
  have HK := Lib.hid (HK.out.trans hk)
  clear hk
  go_wp2_with (fail)
  go_ret
  exact ⟨rfl, HK.out.below (Nat.le_refl _) (by simp)⟩

set_option maxHeartbeats 2000000 in
theorem walk_mid (a : Option Addr) (c : Nat) (xs : List Int) (w : World) (h : IntsArg w a c xs) (L : Nat) (hL : (xs.take 20).length = L) (st : Int) (s y m5 m6 : Nat) (hs : s ≤ 6) (hr : runA st (xs.take 20) = ((s : Int), (y : Int), 0)) (hy : y ≤ 4) (hd5 : ((dist s 5).getD 0, (dist s 5).isSome) = (m5, true)) (hd6 : ((dist s 6).getD 0, (dist s 6).isSome) = (m6, true)) (he : (decide (st = 5) || decide (st = 6)) = false) (hf : (decide ((s : Int) = 5) || decide ((s : Int) = 6)) = false) :
    Calls Try.prog 7 #[.int .i64 st, .slice a xs.length c] w fun e w' => e = .returned (.bool true) ∧ Below w.heap.size w w' := by
  have HL := Lib.hid hL
  have HX := Lib.hid h
  have hl20 : (xs.take 20).length ≤ 20 := by simp; omega
  have HL20 := Lib.hid hl20
  have HR := Lib.hid hr
  have HD5 := Lib.hid hd5
  have HD6 := Lib.hid hd6
  have HEst := Lib.hid he
  have HF := Lib.hid hf
  clear hr hd5 hd6 he hf
  have HK := Lib.hid (Keeps.refl [] w)
  clear hl20 h hL
  go_enter Try.func7, Try.ntmps7
  go_wp2_with (fail)
  refine (shown_any _).mono ?_
  rintro r w1 ⟨rfl, hk⟩
  have HK := Lib.hid (HK.out.trans hk)
  clear hk
  go_wp2_with (fail)
  refine (few_any a c xs _ (HX.out.keeps HK.out)).mono ?_
  rintro r w1 ⟨rfl, rfl⟩
  rw [HL.out]
  go_wp2_with (fail)
  have hr1 := run_arg st a c (xs.take 20) _ ((HX.out.take 20).keeps HK.out) HL20.out _ _ _ HR.out
  rw [HL.out] at hr1
  refine hr1.mono ?_
  clear hr1
  rintro r w1 ⟨rfl, hk⟩
  have HK := Lib.hid (HK.out.trans hk)
  clear hk
  go_wp2_with (fail)
  refine (least_eq s 5 hs (by decide) _ true HD5.out _).mono ?_
  rintro r w1 ⟨rfl, hk⟩
  have HK := Lib.hid (HK.out.trans hk)
  clear hk
  go_wp2_with (fail)
  refine (least_eq s 6 hs (by decide) _ true HD6.out _).mono ?_
  rintro r w1 ⟨rfl, hk⟩
  have HK := Lib.hid (HK.out.trans hk)
  clear hk
  go_wp2_with (fail)
  refine (isEnd_eq st false HEst.out _).mono ?_
  rintro r w1 ⟨rfl, hk⟩
  have HK := Lib.hid (HK.out.trans hk)
  clear hk
  go_wp2_with (fail)
  refine (isEnd_eq s false HF.out _).mono ?_
  rintro r w1 ⟨rfl, hk⟩
  have HK := Lib.hid (HK.out.trans hk)
  clear hk
  go_wp2_with (fail)
  go_ret
  exact ⟨rfl, HK.out.below (Nat.le_refl _) (by simp)⟩

set_option maxHeartbeats 2000000 in
theorem walk_over (a : Option Addr) (c : Nat) (xs : List Int) (w : World) (h : IntsArg w a c xs) (L : Nat) (hL : (xs.take 20).length = L) (st : Int) (s y m5 m6 : Nat) (hs : s ≤ 6) (hr : runA st (xs.take 20) = ((s : Int), (y : Int), 0)) (hy : y ≤ 4) (hd5 : ((dist s 5).getD 0, (dist s 5).isSome) = (m5, true)) (hd6 : ((dist s 6).getD 0, (dist s 6).isSome) = (m6, false)) (he : (decide (st = 5) || decide (st = 6)) = false) (hf : (decide ((s : Int) = 5) || decide ((s : Int) = 6)) = true) :
    Calls Try.prog 7 #[.int .i64 st, .slice a xs.length c] w fun e w' => e = .returned (.bool true) ∧ Below w.heap.size w w' := by
  have HL := Lib.hid hL
  have HX := Lib.hid h
  have hl20 : (xs.take 20).length ≤ 20 := by simp; omega
  have HL20 := Lib.hid hl20
  have HR := Lib.hid hr
  have HD5 := Lib.hid hd5
  have HD6 := Lib.hid hd6
  have HEst := Lib.hid he
  have HF := Lib.hid hf
  clear hr hd5 hd6 he hf
  have HK := Lib.hid (Keeps.refl [] w)
  clear hl20 h hL
  go_enter Try.func7, Try.ntmps7
  go_wp2_with (fail)
  refine (shown_any _).mono ?_
  rintro r w1 ⟨rfl, hk⟩
  have HK := Lib.hid (HK.out.trans hk)
  clear hk
  go_wp2_with (fail)
  refine (few_any a c xs _ (HX.out.keeps HK.out)).mono ?_
  rintro r w1 ⟨rfl, rfl⟩
  rw [HL.out]
  go_wp2_with (fail)
  have hr1 := run_arg st a c (xs.take 20) _ ((HX.out.take 20).keeps HK.out) HL20.out _ _ _ HR.out
  rw [HL.out] at hr1
  refine hr1.mono ?_
  clear hr1
  rintro r w1 ⟨rfl, hk⟩
  have HK := Lib.hid (HK.out.trans hk)
  clear hk
  go_wp2_with (fail)
  refine (least_eq s 5 hs (by decide) _ true HD5.out _).mono ?_
  rintro r w1 ⟨rfl, hk⟩
  have HK := Lib.hid (HK.out.trans hk)
  clear hk
  go_wp2_with (fail)
  refine (least_eq s 6 hs (by decide) _ false HD6.out _).mono ?_
  rintro r w1 ⟨rfl, hk⟩
  have HK := Lib.hid (HK.out.trans hk)
  clear hk
  go_wp2_with (fail)
  refine (isEnd_eq st false HEst.out _).mono ?_
  rintro r w1 ⟨rfl, hk⟩
  have HK := Lib.hid (HK.out.trans hk)
  clear hk
  go_wp2_with (fail)
  refine (isEnd_eq s true HF.out _).mono ?_
  rintro r w1 ⟨rfl, hk⟩
  have HK := Lib.hid (HK.out.trans hk)
  clear hk
  go_wp2_with (fail)
  go_ret
  exact ⟨rfl, HK.out.below (Nat.le_refl _) (by simp)⟩

set_option maxHeartbeats 2000000 in
theorem walk_broken (a : Option Addr) (c : Nat) (xs : List Int) (w : World) (h : IntsArg w a c xs) (L : Nat) (hL : (xs.take 20).length = L) (st : Int) (s y m5 m6 : Nat) (hs : s ≤ 6) (hr : runA st (xs.take 20) = ((s : Int), (y : Int), 0)) (hy : y ≤ 4) (hd5 : ((dist s 5).getD 0, (dist s 5).isSome) = (m5, false)) (hd6 : ((dist s 6).getD 0, (dist s 6).isSome) = (m6, true)) (he : (decide (st = 5) || decide (st = 6)) = false) (hf : (decide ((s : Int) = 5) || decide ((s : Int) = 6)) = true) :
    Calls Try.prog 7 #[.int .i64 st, .slice a xs.length c] w fun e w' => e = .returned (.bool true) ∧ Below w.heap.size w w' := by
  have HL := Lib.hid hL
  have HX := Lib.hid h
  have hl20 : (xs.take 20).length ≤ 20 := by simp; omega
  have HL20 := Lib.hid hl20
  have HR := Lib.hid hr
  have HD5 := Lib.hid hd5
  have HD6 := Lib.hid hd6
  have HEst := Lib.hid he
  have HF := Lib.hid hf
  clear hr hd5 hd6 he hf
  have HK := Lib.hid (Keeps.refl [] w)
  clear hl20 h hL
  go_enter Try.func7, Try.ntmps7
  go_wp2_with (fail)
  refine (shown_any _).mono ?_
  rintro r w1 ⟨rfl, hk⟩
  have HK := Lib.hid (HK.out.trans hk)
  clear hk
  go_wp2_with (fail)
  refine (few_any a c xs _ (HX.out.keeps HK.out)).mono ?_
  rintro r w1 ⟨rfl, rfl⟩
  rw [HL.out]
  go_wp2_with (fail)
  have hr1 := run_arg st a c (xs.take 20) _ ((HX.out.take 20).keeps HK.out) HL20.out _ _ _ HR.out
  rw [HL.out] at hr1
  refine hr1.mono ?_
  clear hr1
  rintro r w1 ⟨rfl, hk⟩
  have HK := Lib.hid (HK.out.trans hk)
  clear hk
  go_wp2_with (fail)
  refine (least_eq s 5 hs (by decide) _ false HD5.out _).mono ?_
  rintro r w1 ⟨rfl, hk⟩
  have HK := Lib.hid (HK.out.trans hk)
  clear hk
  go_wp2_with (fail)
  refine (least_eq s 6 hs (by decide) _ true HD6.out _).mono ?_
  rintro r w1 ⟨rfl, hk⟩
  have HK := Lib.hid (HK.out.trans hk)
  clear hk
  go_wp2_with (fail)
  refine (isEnd_eq st false HEst.out _).mono ?_
  rintro r w1 ⟨rfl, hk⟩
  have HK := Lib.hid (HK.out.trans hk)
  clear hk
  go_wp2_with (fail)
  refine (isEnd_eq s true HF.out _).mono ?_
  rintro r w1 ⟨rfl, hk⟩
  have HK := Lib.hid (HK.out.trans hk)
  clear hk
  go_wp2_with (fail)
  go_ret
  exact ⟨rfl, HK.out.below (Nat.le_refl _) (by simp)⟩

set_option maxHeartbeats 2000000 in
theorem walk_over0 (a : Option Addr) (c : Nat) (xs : List Int) (w : World) (h : IntsArg w a c xs) (L : Nat) (hL : (xs.take 20).length = L) (st : Int) (s y m5 m6 : Nat) (hst : st = s) (h0 : y = 0) (hs : s ≤ 6) (hr : runA st (xs.take 20) = ((s : Int), (y : Int), 0)) (hy : y ≤ 4) (hd5 : ((dist s 5).getD 0, (dist s 5).isSome) = (m5, true)) (hd6 : ((dist s 6).getD 0, (dist s 6).isSome) = (m6, false)) (he : (decide (st = 5) || decide (st = 6)) = true) (hf : (decide ((s : Int) = 5) || decide ((s : Int) = 6)) = true) :
    Calls Try.prog 7 #[.int .i64 st, .slice a xs.length c] w fun e w' => e = .returned (.bool true) ∧ Below w.heap.size w w' := by
  have HL := Lib.hid hL
  have HX := Lib.hid h
  have hl20 : (xs.take 20).length ≤ 20 := by simp; omega
  have HL20 := Lib.hid hl20
  subst hst h0
  have HR := Lib.hid hr
  have HD5 := Lib.hid hd5
  have HD6 := Lib.hid hd6
  have HEst := Lib.hid hf
  have HF := Lib.hid hf
  clear hr hd5 hd6 he hf
  have HK := Lib.hid (Keeps.refl [] w)
  clear hl20 h hL
  go_enter Try.func7, Try.ntmps7
  go_wp2_with (fail)
  refine (shown_any _).mono ?_
  rintro r w1 ⟨rfl, hk⟩
  have HK := Lib.hid (HK.out.trans hk)
  clear hk
  go_wp2_with (fail)
  refine (few_any a c xs _ (HX.out.keeps HK.out)).mono ?_
  rintro r w1 ⟨rfl, rfl⟩
  rw [HL.out]
  go_wp2_with (fail)
  have hr1 := run_arg s a c (xs.take 20) _ ((HX.out.take 20).keeps HK.out) HL20.out _ _ _ HR.out
  rw [HL.out] at hr1
  refine hr1.mono ?_
  clear hr1
  rintro r w1 ⟨rfl, hk⟩
  have HK := Lib.hid (HK.out.trans hk)
  clear hk
  go_wp2_with (fail)
  refine (least_eq s 5 hs (by decide) _ true HD5.out _).mono ?_
  rintro r w1 ⟨rfl, hk⟩
  have HK := Lib.hid (HK.out.trans hk)
  clear hk
  go_wp2_with (fail)
  refine (least_eq s 6 hs (by decide) _ false HD6.out _).mono ?_
  rintro r w1 ⟨rfl, hk⟩
  have HK := Lib.hid (HK.out.trans hk)
  clear hk
  go_wp2_with (fail)
  refine (isEnd_eq s true HEst.out _).mono ?_
  rintro r w1 ⟨rfl, hk⟩
  have HK := Lib.hid (HK.out.trans hk)
  clear hk
  go_wp2_with (fail)
  refine (isEnd_eq s true HF.out _).mono ?_
  rintro r w1 ⟨rfl, hk⟩
  have HK := Lib.hid (HK.out.trans hk)
  clear hk
  go_wp2_with (fail)
  go_ret
  exact ⟨rfl, HK.out.below (Nat.le_refl _) (by simp)⟩

set_option maxHeartbeats 2000000 in
theorem walk_broken0 (a : Option Addr) (c : Nat) (xs : List Int) (w : World) (h : IntsArg w a c xs) (L : Nat) (hL : (xs.take 20).length = L) (st : Int) (s y m5 m6 : Nat) (hst : st = s) (h0 : y = 0) (hs : s ≤ 6) (hr : runA st (xs.take 20) = ((s : Int), (y : Int), 0)) (hy : y ≤ 4) (hd5 : ((dist s 5).getD 0, (dist s 5).isSome) = (m5, false)) (hd6 : ((dist s 6).getD 0, (dist s 6).isSome) = (m6, true)) (he : (decide (st = 5) || decide (st = 6)) = true) (hf : (decide ((s : Int) = 5) || decide ((s : Int) = 6)) = true) :
    Calls Try.prog 7 #[.int .i64 st, .slice a xs.length c] w fun e w' => e = .returned (.bool true) ∧ Below w.heap.size w w' := by
  have HL := Lib.hid hL
  have HX := Lib.hid h
  have hl20 : (xs.take 20).length ≤ 20 := by simp; omega
  have HL20 := Lib.hid hl20
  subst hst h0
  have HR := Lib.hid hr
  have HD5 := Lib.hid hd5
  have HD6 := Lib.hid hd6
  have HEst := Lib.hid hf
  have HF := Lib.hid hf
  clear hr hd5 hd6 he hf
  have HK := Lib.hid (Keeps.refl [] w)
  clear hl20 h hL
  go_enter Try.func7, Try.ntmps7
  go_wp2_with (fail)
  refine (shown_any _).mono ?_
  rintro r w1 ⟨rfl, hk⟩
  have HK := Lib.hid (HK.out.trans hk)
  clear hk
  go_wp2_with (fail)
  refine (few_any a c xs _ (HX.out.keeps HK.out)).mono ?_
  rintro r w1 ⟨rfl, rfl⟩
  rw [HL.out]
  go_wp2_with (fail)
  have hr1 := run_arg s a c (xs.take 20) _ ((HX.out.take 20).keeps HK.out) HL20.out _ _ _ HR.out
  rw [HL.out] at hr1
  refine hr1.mono ?_
  clear hr1
  rintro r w1 ⟨rfl, hk⟩
  have HK := Lib.hid (HK.out.trans hk)
  clear hk
  go_wp2_with (fail)
  refine (least_eq s 5 hs (by decide) _ false HD5.out _).mono ?_
  rintro r w1 ⟨rfl, hk⟩
  have HK := Lib.hid (HK.out.trans hk)
  clear hk
  go_wp2_with (fail)
  refine (least_eq s 6 hs (by decide) _ true HD6.out _).mono ?_
  rintro r w1 ⟨rfl, hk⟩
  have HK := Lib.hid (HK.out.trans hk)
  clear hk
  go_wp2_with (fail)
  refine (isEnd_eq s true HEst.out _).mono ?_
  rintro r w1 ⟨rfl, hk⟩
  have HK := Lib.hid (HK.out.trans hk)
  clear hk
  go_wp2_with (fail)
  refine (isEnd_eq s true HF.out _).mono ?_
  rintro r w1 ⟨rfl, hk⟩
  have HK := Lib.hid (HK.out.trans hk)
  clear hk
  go_wp2_with (fail)
  go_ret
  exact ⟨rfl, HK.out.below (Nat.le_refl _) (by simp)⟩

theorem walk (st : Int) (a : Option Addr) (xs : List Int) (c : Nat) {W : World} (_ : (Lit.int IntKind.i64 st).wf = true) (h : IntsArg W a c xs) (w : World) (hw : w = W) :
    Calls Try.prog 7 #[.int .i64 st, .slice a xs.length c] w fun e w' => e = .returned (.bool true) ∧ Below W.heap.size W w' := by
  subst hw
  by_cases hs : 0 ≤ st ∧ st < 7
  · obtain ⟨n, rfl⟩ : ∃ n : Nat, st = n := ⟨st.toNat, by omega⟩
    have hn : n ≤ 6 := by omega
    have hr : runA n (xs.take 20) = (((runS n (xs.take 20)).1 : Int), ((runS n (xs.take 20)).2 : Int), 0) := by
      unfold runA; rw [if_pos (by omega), Int.toNat_natCast]
    have hk := runS_rank (xs.take 20) n
    have hb := runS_le (xs.take 20) n hn
    obtain ⟨s, y, hsy⟩ : ∃ s y, runS n (xs.take 20) = (s, y) := ⟨_, _, rfl⟩
    have h56 : n = 5 ∨ n = 6 → s = n ∧ y = 0 := by
      have hz : ∀ l, runS 5 l = (5, 0) ∧ runS 6 l = (6, 0) := fun l => by
        cases l with
        | nil => exact ⟨rfl, rfl⟩
        | cons e l => exact ⟨by unfold runS; simp [nxt], by unfold runS; simp [nxt]⟩
      rintro (rfl | rfl)
      · rw [(hz _).1] at hsy; cases hsy; exact ⟨rfl, rfl⟩
      · rw [(hz _).2] at hsy; cases hsy; exact ⟨rfl, rfl⟩
    rw [hsy] at hr hk hb
    dsimp only at hr hk hb
    have hy : y ≤ 4 := by have := rank_le s; omega
    have hs6 := hb.1
    clear hsy hk hb hs
    by_cases he : n = 5 ∨ n = 6
    · obtain ⟨rfl, rfl⟩ := h56 he
      rcases he with rfl | rfl
      · exact walk_over0 a c xs w h _ rfl _ 5 0 _ _ rfl rfl hs6 hr hy rfl rfl rfl rfl
      · exact walk_broken0 a c xs w h _ rfl _ 6 0 _ _ rfl rfl hs6 hr hy rfl rfl rfl rfl
    · have he' : (decide ((n : Int) = 5) || decide ((n : Int) = 6)) = false := by
        simp; omega
      have hcs : s = 0 ∨ s = 1 ∨ s = 2 ∨ s = 3 ∨ s = 4 ∨ s = 5 ∨ s = 6 := by omega
      rcases hcs with rfl | rfl | rfl | rfl | rfl | rfl | rfl
      · exact walk_mid a c xs w h _ rfl _ 0 y _ _ hs6 hr hy rfl rfl he' rfl
      · exact walk_mid a c xs w h _ rfl _ 1 y _ _ hs6 hr hy rfl rfl he' rfl
      · exact walk_mid a c xs w h _ rfl _ 2 y _ _ hs6 hr hy rfl rfl he' rfl
      · exact walk_mid a c xs w h _ rfl _ 3 y _ _ hs6 hr hy rfl rfl he' rfl
      · exact walk_mid a c xs w h _ rfl _ 4 y _ _ hs6 hr hy rfl rfl he' rfl
      · exact walk_over a c xs w h _ rfl _ 5 y _ _ hs6 hr hy rfl rfl he' rfl
      · exact walk_broken a c xs w h _ rfl _ 6 y _ _ hs6 hr hy rfl rfl he' rfl
  · exact walk_bad a c xs w h _ rfl st (if_neg hs)

theorem own : ownKnob Try.prog.godebug = none := by kernel_rfl

set_option maxRecDepth 100000 in
theorem lifted (os : Os) (started : os.Started) (H : Type) (enc : TypeId × Value → H) :
    ReturnsInHanded {} Try.checked os 7 .any (Rows.streamEndsSpec.pre6 enc Try.prog Try.f7 Rows.streamEndsRow.domain false) (Rows.streamEndsSpec.post enc Try.prog Try.f7 false true false false) := by
  refine returnsInHanded_of_change (C := Try.checked) own started (by kernel_rfl) Try.func7
    (ChangeSpec.witness6 (enc := enc) (C := Try.checked) false ⟨#[], #[.int .i64 0, .slice none 0 0], []⟩ 8 (by kernel_rfl) (by kernel_rfl) (by kernel_rfl) (by kernel_rfl)) ?_
  intro W base args ds gs before hval0 hW hcnd _
  have hval : ∀ (j : Nat) t v, Try.f7.params[j]? = some t → args[j]? = some v → Value.okWide Try.prog W .any base t v := hval0
  have hW' := hW
  obtain ⟨p, q, hA0, hV, rfl, hfz, hnd⟩ := hW
  have hA : DataW.TrodAll enc Try.prog W 0 (fun _ => true) true Try.f7.params.toList args.toList ds p := hA0
  rw [Try.params7] at hA hval
  obtain ⟨v0, vs0, d0, ds0, p0, q0, hargs, rfl, rfl, h0, r0⟩ := trodAll_cons hA
  obtain ⟨v1, vs1, d1, ds1, p1, q1, rfl, rfl, rfl, h1, r1⟩ := trodAll_cons r0
  obtain ⟨rfl, rfl, rfl⟩ := trodAll_nil r1
  obtain rfl : args = #[v0, v1] := by cases args; simp_all
  obtain ⟨rfl, rfl⟩ := trodVars_none hV
  obtain ⟨a0, rfl, rfl, rfl, w0⟩ := open_int Try.underlying3 (hval 0 3 v0 rfl rfl) h0
  obtain ⟨a1, xs1, c1, rfl, w1⟩ := open_nums (hval 1 22 v1 rfl rfl) h1
  refine (walk a0 a1 xs1 c1 w0 w1 W rfl).mono fun e W' ⟨he, hb⟩ => ?_
  subst he
  exact ⟨_, rfl, law_post (by kernel_rfl) (by decide +kernel) rfl rfl Try.underlying4 hW' hb ⟨rfl, rfl, rfl⟩⟩

theorem over : Rows.streamEndsRow.holds Try.pinned (OpenSpec.ofChange Rows.streamEndsSpec) :=
  OpenClaim.holds_of_wide 7 Try.f7 rfl rfl rfl rfl rfl rfl rfl ⟨rfl, rfl, rfl, rfl, rfl⟩ rfl rfl rfl rfl rfl (by kernel_rfl) Try.func7 (by kernel_rfl)
    (of_decide_eq_true (by kernel_rfl)) (by unfold Func.isWrapper; first | (rw [if_pos (by decide +kernel)]; kernel_rfl) | (rw [if_neg (by decide +kernel)]; exact ⟨rfl, rfl⟩))
    (fun os started H enc _ => lifted os started H enc)

theorem proved : Rows.StreamEndsSaid := over

end streamEnds
end Go.Proofs.Ytfgkfhchnnkonaa
