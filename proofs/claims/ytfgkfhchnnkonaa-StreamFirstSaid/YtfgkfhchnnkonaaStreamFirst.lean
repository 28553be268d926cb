/- StreamFirst: from Idle nothing but EvOpen happens, and bytes go on just behind EvAccept: for every event and numbers. No condition. -/
import Derived.Test.YtfgkfhchnnkonaaStreamH
namespace Go.Proofs.Ytfgkfhchnnkonaa
open Go.RowKit

/-- Whoever comes to where bytes go on began by the first two events. -/
theorem runS_up (l : List Int) (h : (runS 0 l).1 = 2 ∨ (runS 0 l).1 = 3 ∨ (runS 0 l).1 = 4) : 2 ≤ (runS 0 l).2 ∧ ∃ r, l = 1 :: 2 :: r := by
  match l with
  | [] => simp [runS] at h
  | [e] =>
    unfold runS at h
    unfold nxt at h
    by_cases he : e = 1
    · subst he; simp [runS] at h
    · simp [he] at h
  | e :: e2 :: r =>
    by_cases he : e = 1
    · subst he
      have h1 : nxt 0 1 = some 1 := rfl
      unfold runS at h ⊢
      rw [h1] at h ⊢
      dsimp only at h ⊢
      by_cases he2 : e2 = 2
      · subst he2
        have h2 : nxt 1 2 = some 2 := rfl
        unfold runS
        rw [h2]
        exact ⟨by simp, r, rfl⟩
      · exfalso
        unfold runS at h
        cases hn : nxt 1 e2 with
        | none => rw [hn] at h; simp at h
        | some t =>
          have : t = 6 := by
            unfold nxt at hn
            simp [he2] at hn
            split at hn
            · exact (Option.some.inj hn).symm
            · split at hn
              · exact (Option.some.inj hn).symm
              · cases hn
          subst this
          rw [hn] at h
          dsimp only at h
          have h6 : ∀ l, (runS 6 l).1 = 6 := fun l => by
            cases l with
            | nil => rfl
            | cons e l =>
              have : nxt 6 e = none := by unfold nxt; simp
              unfold runS; rw [this]
          rw [h6] at h; omega
    · have : nxt 0 e = none := by unfold nxt; simp [he]
      unfold runS at h
      rw [this] at h
      simp at h

namespace streamFirst
open Go.ChangeShapes Go.WideShapes Go.ChangeAt
attribute [local go_sem ↓] Go.wp_at_zero Go.wp_at_succ

set_option maxHeartbeats 2000000 in
theorem walk_open_none (a : Option Addr) (c : Nat) (xs : List Int) (w : World) (h : IntsArg w a c xs) (L : Nat) (hL : (xs.take 20).length = L) (t n : Int) (hin : (decide (t = 2) || decide (t = 4)) = false) (hout : (decide (t = 2) || decide (t = 3)) = false) (hr : runA 0 (xs.take 20) = (t, n, 0)) :
    Calls Try.prog 5 #[.int .i64 1, .slice a xs.length c] w fun e w' => e = .returned (.bool true) ∧ Below w.heap.size w w' := by
  have HL := Lib.hid hL
  have HX := Lib.hid h
  have HIN := Lib.hid hin
  have HR := Lib.hid hr
  have HOUT := Lib.hid hout
  have hl20 : (xs.take 20).length ≤ 20 := by simp; omega
  have HL20 := Lib.hid hl20
  clear hl20
  have HK := Lib.hid (Keeps.refl [] w)
  clear h hL hin hr hout
  go_enter Try.func5, Try.ntmps5
  go_wp2_with (fail)
  refine (shown_any _).mono ?_
  rintro r w1 ⟨rfl, hk⟩
  have HK := Lib.hid (HK.out.trans hk)
  clear hk
  go_wp2_with (fail)
  refine (few_any a c xs _ (HX.out.keeps HK.out)).mono ?_
  rintro r w1 ⟨rfl, rfl⟩
  rw [HL.out]
  go_wp2_with (fail)
  refine (next_eq 0 1 1 0 (by decide) _).mono ?_
  rintro r w1 ⟨rfl, hk⟩
  have HK := Lib.hid (HK.out.trans hk)
  clear hk
  go_wp2_with (fail)
  have hr1 := run_arg 0 a c (xs.take 20) _ ((HX.out.take 20).keeps HK.out) HL20.out _ _ _ HR.out
  rw [HL.out] at hr1
  refine hr1.mono ?_
  clear hr1
  rintro r w1 ⟨rfl, hk⟩
  have HK := Lib.hid (HK.out.trans hk)
  clear hk
  go_wp2_with (fail)
  refine (in_eq t _ HIN.out _).mono ?_
  rintro r w1 ⟨rfl, hk⟩
  have HK := Lib.hid (HK.out.trans hk)
  clear hk
  go_wp2_with (fail)
  refine (out_eq t _ HOUT.out _).mono ?_
  rintro r w1 ⟨rfl, hk⟩
  have HK := Lib.hid (HK.out.trans hk)
  clear hk
  go_wp2_with (fail)
  go_ret
  exact ⟨rfl, HK.out.below (Nat.le_refl _) (by simp)⟩

set_option maxHeartbeats 2000000 in
theorem walk_open_in (a : Option Addr) (c : Nat) (xs : List Int) (w : World) (h : IntsArg w a c xs) (L : Nat) (hL : (xs.take 20).length = L) (t n : Int) (hin : (decide (t = 2) || decide (t = 4)) = true) (hr : runA 0 (xs.take 20) = (t, n, 0)) (hn : ¬ n < 2) (rest : List Int) (hx : xs.take 20 = 1 :: 2 :: rest) :
    Calls Try.prog 5 #[.int .i64 1, .slice a xs.length c] w fun e w' => e = .returned (.bool true) ∧ Below w.heap.size w w' := by
  have HL := Lib.hid hL
  have HX := Lib.hid h
  have HIN := Lib.hid hin
  have HR := Lib.hid hr
  have hl20 : (xs.take 20).length ≤ 20 := by simp; omega
  have HL20 := Lib.hid hl20
  clear hl20
  obtain ⟨b, off, rfl, hb, hat⟩ := (h.take 20).at_ (by rw [hx]; simp)
  have hc0 : w.cell? ⟨b, off, none⟩ = some (.int .i64 1) := by
    have := hat 0 (by rw [hx]; simp)
    simpa [hx] using this
  have hc1 : w.cell? ⟨b, off + 1, none⟩ = some (.int .i64 2) := by
    have := hat 1 (by rw [hx]; simp)
    simpa [hx] using this
  have HC := Lib.hid (And.intro hb (And.intro hc0 hc1))
  have hL2 : 2 ≤ L := by rw [← hL, hx]; simp
  have hL0 : (0 : Int) < (L : Int) := by omega
  have hL1 : (1 : Int) < (L : Int) := by omega
  clear hx hat hb hc0 hc1
  have HK := Lib.hid (Keeps.refl [] w)
  clear h hL hin hr
  go_enter Try.func5, Try.ntmps5
  go_wp2_with (fail)
  refine (shown_any _).mono ?_
  rintro r w1 ⟨rfl, hk⟩
  have HK := Lib.hid (HK.out.trans hk)
  clear hk
  go_wp2_with (fail)
  refine (few_any (some ⟨b, off, none⟩) c xs _ (HX.out.keeps HK.out)).mono ?_
  rintro r w1 ⟨rfl, rfl⟩
  rw [HL.out]
  go_wp2_with (fail)
  refine (next_eq 0 1 1 0 (by decide) _).mono ?_
  rintro r w1 ⟨rfl, hk⟩
  have HK := Lib.hid (HK.out.trans hk)
  clear hk
  go_wp2_with (fail)
  have hr1 := run_arg 0 (some ⟨b, off, none⟩) c (xs.take 20) _ ((HX.out.take 20).keeps HK.out) HL20.out _ _ _ HR.out
  rw [HL.out] at hr1
  refine hr1.mono ?_
  clear hr1
  rintro r w1 ⟨rfl, hk⟩
  have HK := Lib.hid (HK.out.trans hk)
  clear hk
  go_wp2_with (fail)
  refine (in_eq t _ HIN.out _).mono ?_
  rintro r w1 ⟨rfl, hk⟩
  have HK := Lib.hid (HK.out.trans hk)
  clear hk
  obtain ⟨hb, hc0, hc1⟩ := HC.out
  have hc0 := (HK.out.cell (p := ⟨b, off, none⟩) hb (by simp)).trans hc0
  have hc1 := (HK.out.cell (p := ⟨b, off + 1, none⟩) hb (by simp)).trans hc1
  clear hb
  go_wp2_with (fail)
  go_ret
  exact ⟨rfl, HK.out.below (Nat.le_refl _) (by simp)⟩

set_option maxHeartbeats 2000000 in
theorem walk_open_out (a : Option Addr) (c : Nat) (xs : List Int) (w : World) (h : IntsArg w a c xs) (L : Nat) (hL : (xs.take 20).length = L) (t n : Int) (hin : (decide (t = 2) || decide (t = 4)) = false) (hout : (decide (t = 2) || decide (t = 3)) = true) (hr : runA 0 (xs.take 20) = (t, n, 0)) (hn : ¬ n < 2) (rest : List Int) (hx : xs.take 20 = 1 :: 2 :: rest) :
    Calls Try.prog 5 #[.int .i64 1, .slice a xs.length c] w fun e w' => e = .returned (.bool true) ∧ Below w.heap.size w w' := by
  have HL := Lib.hid hL
  have HX := Lib.hid h
  have HIN := Lib.hid hin
  have HR := Lib.hid hr
  have HOUT := Lib.hid hout
  have hl20 : (xs.take 20).length ≤ 20 := by simp; omega
  have HL20 := Lib.hid hl20
  clear hl20
  obtain ⟨b, off, rfl, hb, hat⟩ := (h.take 20).at_ (by rw [hx]; simp)
  have hc0 : w.cell? ⟨b, off, none⟩ = some (.int .i64 1) := by
    have := hat 0 (by rw [hx]; simp)
    simpa [hx] using this
  have hc1 : w.cell? ⟨b, off + 1, none⟩ = some (.int .i64 2) := by
    have := hat 1 (by rw [hx]; simp)
    simpa [hx] using this
  have HC := Lib.hid (And.intro hb (And.intro hc0 hc1))
  have hL2 : 2 ≤ L := by rw [← hL, hx]; simp
  have hL0 : (0 : Int) < (L : Int) := by omega
  have hL1 : (1 : Int) < (L : Int) := by omega
  clear hx hat hb hc0 hc1
  have HK := Lib.hid (Keeps.refl [] w)
  clear h hL hin hr hout
  go_enter Try.func5, Try.ntmps5
  go_wp2_with (fail)
  refine (shown_any _).mono ?_
  rintro r w1 ⟨rfl, hk⟩
  have HK := Lib.hid (HK.out.trans hk)
  clear hk
  go_wp2_with (fail)
  refine (few_any (some ⟨b, off, none⟩) c xs _ (HX.out.keeps HK.out)).mono ?_
  rintro r w1 ⟨rfl, rfl⟩
  rw [HL.out]
  go_wp2_with (fail)
  refine (next_eq 0 1 1 0 (by decide) _).mono ?_
  rintro r w1 ⟨rfl, hk⟩
  have HK := Lib.hid (HK.out.trans hk)
  clear hk
  go_wp2_with (fail)
  have hr1 := run_arg 0 (some ⟨b, off, none⟩) c (xs.take 20) _ ((HX.out.take 20).keeps HK.out) HL20.out _ _ _ HR.out
  rw [HL.out] at hr1
  refine hr1.mono ?_
  clear hr1
  rintro r w1 ⟨rfl, hk⟩
  have HK := Lib.hid (HK.out.trans hk)
  clear hk
  go_wp2_with (fail)
  refine (in_eq t _ HIN.out _).mono ?_
  rintro r w1 ⟨rfl, hk⟩
  have HK := Lib.hid (HK.out.trans hk)
  clear hk
  go_wp2_with (fail)
  refine (out_eq t _ HOUT.out _).mono ?_
  rintro r w1 ⟨rfl, hk⟩
  have HK := Lib.hid (HK.out.trans hk)
  clear hk
  obtain ⟨hb, hc0, hc1⟩ := HC.out
  have hc0 := (HK.out.cell (p := ⟨b, off, none⟩) hb (by simp)).trans hc0
  have hc1 := (HK.out.cell (p := ⟨b, off + 1, none⟩) hb (by simp)).trans hc1
  clear hb
  go_wp2_with (fail)
  go_ret
  exact ⟨rfl, HK.out.below (Nat.le_refl _) (by simp)⟩

set_option maxHeartbeats 2000000 in
theorem walk_other_none (a : Option Addr) (c : Nat) (xs : List Int) (w : World) (h : IntsArg w a c xs) (L : Nat) (hL : (xs.take 20).length = L) (ev : Int) (hev : (ev == 1) = false) (hne : nextA 0 ev = (0, 140)) (t n : Int) (hin : (decide (t = 2) || decide (t = 4)) = false) (hout : (decide (t = 2) || decide (t = 3)) = false) (hr : runA 0 (xs.take 20) = (t, n, 0)) :
    Calls Try.prog 5 #[.int .i64 ev, .slice a xs.length c] w fun e w' => e = .returned (.bool true) ∧ Below w.heap.size w w' := by
  have HL := Lib.hid hL
  have HX := Lib.hid h
  have HIN := Lib.hid hin
  have HR := Lib.hid hr
  have HOUT := Lib.hid hout
  have HNE := Lib.hid hne
  have hl20 : (xs.take 20).length ≤ 20 := by simp; omega
  have HL20 := Lib.hid hl20
  clear hl20
  have HK := Lib.hid (Keeps.refl [] w)
  clear h hL hin hr hout hne
  go_enter Try.func5, Try.ntmps5
  go_wp2_with (fail)
  refine (shown_any _).mono ?_
  rintro r w1 ⟨rfl, hk⟩
  have HK := Lib.hid (HK.out.trans hk)
  clear hk
  go_wp2_with (fail)
  refine (few_any a c xs _ (HX.out.keeps HK.out)).mono ?_
  rintro r w1 ⟨rfl, rfl⟩
  rw [HL.out]
  go_wp2_with (fail)
  refine (next_eq 0 ev 0 140 HNE.out _).mono ?_
  rintro r w1 ⟨rfl, hk⟩
  have HK := Lib.hid (HK.out.trans hk)
  clear hk
  go_wp2_with (fail)
  have hr1 := run_arg 0 a c (xs.take 20) _ ((HX.out.take 20).keeps HK.out) HL20.out _ _ _ HR.out
  rw [HL.out] at hr1
  refine hr1.mono ?_
  clear hr1
  rintro r w1 ⟨rfl, hk⟩
  have HK := Lib.hid (HK.out.trans hk)
  clear hk
  go_wp2_with (fail)
  refine (in_eq t _ HIN.out _).mono ?_
  rintro r w1 ⟨rfl, hk⟩
  have HK := Lib.hid (HK.out.trans hk)
  clear hk
  go_wp2_with (fail)
  refine (out_eq t _ HOUT.out _).mono ?_
  rintro r w1 ⟨rfl, hk⟩
  have HK := Lib.hid (HK.out.trans hk)
  clear hk
  go_wp2_with (fail)
  go_ret
  exact ⟨rfl, HK.out.below (Nat.le_refl _) (by simp)⟩

set_option maxHeartbeats 2000000 in
theorem walk_other_in (a : Option Addr) (c : Nat) (xs : List Int) (w : World) (h : IntsArg w a c xs) (L : Nat) (hL : (xs.take 20).length = L) (ev : Int) (hev : (ev == 1) = false) (hne : nextA 0 ev = (0, 140)) (t n : Int) (hin : (decide (t = 2) || decide (t = 4)) = true) (hr : runA 0 (xs.take 20) = (t, n, 0)) (hn : ¬ n < 2) (rest : List Int) (hx : xs.take 20 = 1 :: 2 :: rest) :
    Calls Try.prog 5 #[.int .i64 ev, .slice a xs.length c] w fun e w' => e = .returned (.bool true) ∧ Below w.heap.size w w' := by
  have HL := Lib.hid hL
  have HX := Lib.hid h
  have HIN := Lib.hid hin
  have HR := Lib.hid hr
  have HNE := Lib.hid hne
  have hl20 : (xs.take 20).length ≤ 20 := by simp; omega
  have HL20 := Lib.hid hl20
  clear hl20
  obtain ⟨b, off, rfl, hb, hat⟩ := (h.take 20).at_ (by rw [hx]; simp)
  have hc0 : w.cell? ⟨b, off, none⟩ = some (.int .i64 1) := by
    have := hat 0 (by rw [hx]; simp)
    simpa [hx] using this
  have hc1 : w.cell? ⟨b, off + 1, none⟩ = some (.int .i64 2) := by
    have := hat 1 (by rw [hx]; simp)
    simpa [hx] using this
  have HC := Lib.hid (And.intro hb (And.intro hc0 hc1))
  have hL2 : 2 ≤ L := by rw [← hL, hx]; simp
  have hL0 : (0 : Int) < (L : Int) := by omega
  have hL1 : (1 : Int) < (L : Int) := by omega
  clear hx hat hb hc0 hc1
  have HK := Lib.hid (Keeps.refl [] w)
  clear h hL hin hr hne
  go_enter Try.func5, Try.ntmps5
  go_wp2_with (fail)
  refine (shown_any _).mono ?_
  rintro r w1 ⟨rfl, hk⟩
  have HK := Lib.hid (HK.out.trans hk)
  clear hk
  go_wp2_with (fail)
  refine (few_any (some ⟨b, off, none⟩) c xs _ (HX.out.keeps HK.out)).mono ?_
  rintro r w1 ⟨rfl, rfl⟩
  rw [HL.out]
  go_wp2_with (fail)
  refine (next_eq 0 ev 0 140 HNE.out _).mono ?_
  rintro r w1 ⟨rfl, hk⟩
  have HK := Lib.hid (HK.out.trans hk)
  clear hk
  go_wp2_with (fail)
  have hr1 := run_arg 0 (some ⟨b, off, none⟩) c (xs.take 20) _ ((HX.out.take 20).keeps HK.out) HL20.out _ _ _ HR.out
  rw [HL.out] at hr1
  refine hr1.mono ?_
  clear hr1
  rintro r w1 ⟨rfl, hk⟩
  have HK := Lib.hid (HK.out.trans hk)
  clear hk
  go_wp2_with (fail)
  refine (in_eq t _ HIN.out _).mono ?_
  rintro r w1 ⟨rfl, hk⟩
  have HK := Lib.hid (HK.out.trans hk)
  clear hk
  obtain ⟨hb, hc0, hc1⟩ := HC.out
  have hc0 := (HK.out.cell (p := ⟨b, off, none⟩) hb (by simp)).trans hc0
  have hc1 := (HK.out.cell (p := ⟨b, off + 1, none⟩) hb (by simp)).trans hc1
  clear hb
  go_wp2_with (fail)
  go_ret
  exact ⟨rfl, HK.out.below (Nat.le_refl _) (by simp)⟩

set_option maxHeartbeats 2000000 in
theorem walk_other_out (a : Option Addr) (c : Nat) (xs : List Int) (w : World) (h : IntsArg w a c xs) (L : Nat) (hL : (xs.take 20).length = L) (ev : Int) (hev : (ev == 1) = false) (hne : nextA 0 ev = (0, 140)) (t n : Int) (hin : (decide (t = 2) || decide (t = 4)) = false) (hout : (decide (t = 2) || decide (t = 3)) = true) (hr : runA 0 (xs.take 20) = (t, n, 0)) (hn : ¬ n < 2) (rest : List Int) (hx : xs.take 20 = 1 :: 2 :: rest) :
    Calls Try.prog 5 #[.int .i64 ev, .slice a xs.length c] w fun e w' => e = .returned (.bool true) ∧ Below w.heap.size w w' := by
  have HL := Lib.hid hL
  have HX := Lib.hid h
  have HIN := Lib.hid hin
  have HR := Lib.hid hr
  have HOUT := Lib.hid hout
  have HNE := Lib.hid hne
  have hl20 : (xs.take 20).length ≤ 20 := by simp; omega
  have HL20 := Lib.hid hl20
  clear hl20
  obtain ⟨b, off, rfl, hb, hat⟩ := (h.take 20).at_ (by rw [hx]; simp)
  have hc0 : w.cell? ⟨b, off, none⟩ = some (.int .i64 1) := by
    have := hat 0 (by rw [hx]; simp)
    simpa [hx] using this
  have hc1 : w.cell? ⟨b, off + 1, none⟩ = some (.int .i64 2) := by
    have := hat 1 (by rw [hx]; simp)
    simpa [hx] using this
  have HC := Lib.hid (And.intro hb (And.intro hc0 hc1))
  have hL2 : 2 ≤ L := by rw [← hL, hx]; simp
  have hL0 : (0 : Int) < (L : Int) := by omega
  have hL1 : (1 : Int) < (L : Int) := by omega
  clear hx hat hb hc0 hc1
  have HK := Lib.hid (Keeps.refl [] w)
  clear h hL hin hr hout hne
  go_enter Try.func5, Try.ntmps5
  go_wp2_with (fail)
  refine (shown_any _).mono ?_
  rintro r w1 ⟨rfl, hk⟩
  have HK := Lib.hid (HK.out.trans hk)
  clear hk
  go_wp2_with (fail)
  refine (few_any (some ⟨b, off, none⟩) c xs _ (HX.out.keeps HK.out)).mono ?_
  rintro r w1 ⟨rfl, rfl⟩
  rw [HL.out]
  go_wp2_with (fail)
  refine (next_eq 0 ev 0 140 HNE.out _).mono ?_
  rintro r w1 ⟨rfl, hk⟩
  have HK := Lib.hid (HK.out.trans hk)
  clear hk
  go_wp2_with (fail)
  have hr1 := run_arg 0 (some ⟨b, off, none⟩) c (xs.take 20) _ ((HX.out.take 20).keeps HK.out) HL20.out _ _ _ HR.out
  rw [HL.out] at hr1
  refine hr1.mono ?_
  clear hr1
  rintro r w1 ⟨rfl, hk⟩
  have HK := Lib.hid (HK.out.trans hk)
  clear hk
  go_wp2_with (fail)
  refine (in_eq t _ HIN.out _).mono ?_
  rintro r w1 ⟨rfl, hk⟩
  have HK := Lib.hid (HK.out.trans hk)
  clear hk
  go_wp2_with (fail)
  refine (out_eq t _ HOUT.out _).mono ?_
  rintro r w1 ⟨rfl, hk⟩
  have HK := Lib.hid (HK.out.trans hk)
  clear hk
  obtain ⟨hb, hc0, hc1⟩ := HC.out
  have hc0 := (HK.out.cell (p := ⟨b, off, none⟩) hb (by simp)).trans hc0
  have hc1 := (HK.out.cell (p := ⟨b, off + 1, none⟩) hb (by simp)).trans hc1
  clear hb
  go_wp2_with (fail)
  go_ret
  exact ⟨rfl, HK.out.below (Nat.le_refl _) (by simp)⟩

theorem pick_shape (t : Nat) (h : t ≤ 6) : (((decide ((t : Int) = 2) || decide ((t : Int) = 4)) = false ∧ (decide ((t : Int) = 2) || decide ((t : Int) = 3)) = false) ∨
    ((decide ((t : Int) = 2) || decide ((t : Int) = 4)) = true ∧ (t = 2 ∨ t = 3 ∨ t = 4)) ∨
    ((decide ((t : Int) = 2) || decide ((t : Int) = 4)) = false ∧ (decide ((t : Int) = 2) || decide ((t : Int) = 3)) = true ∧ (t = 2 ∨ t = 3 ∨ t = 4))) := by
  have hc : t = 0 ∨ t = 1 ∨ t = 2 ∨ t = 3 ∨ t = 4 ∨ t = 5 ∨ t = 6 := by omega
  rcases hc with rfl | rfl | rfl | rfl | rfl | rfl | rfl <;> simp

theorem walk (ev : Int) (a : Option Addr) (xs : List Int) (c : Nat) {W : World} (_ : (Lit.int IntKind.i64 ev).wf = true) (h : IntsArg W a c xs) (w : World) (hw : w = W) :
    Calls Try.prog 5 #[.int .i64 ev, .slice a xs.length c] w fun e w' => e = .returned (.bool true) ∧ Below W.heap.size W w' := by
  subst hw
  have hA : runA 0 (xs.take 20) = (((runS 0 (xs.take 20)).1 : Int), ((runS 0 (xs.take 20)).2 : Int), 0) := by
    unfold runA; rw [if_pos (by omega)]; rfl
  have hle := (runS_le (xs.take 20) 0 (by omega)).1
  have hs := pick_shape _ hle
  by_cases he : ev = 1
  · subst he
    rcases hs with ⟨h1, h2⟩ | ⟨h1, h2⟩ | ⟨h1, h2, h3⟩
    · exact walk_open_none a c xs w h _ rfl _ _ h1 h2 hA
    · obtain ⟨hn, r, hx⟩ := runS_up _ h2
      exact walk_open_in a c xs w h _ rfl _ _ h1 hA (by omega) r hx
    · obtain ⟨hn, r, hx⟩ := runS_up _ h3
      exact walk_open_out a c xs w h _ rfl _ _ h1 h2 hA (by omega) r hx
  · have hev : (ev == 1) = false := by simpa using he
    have hne : nextA 0 ev = (0, 140) := by
      have : nxt 0 ev = none := by unfold nxt; simp [he]
      unfold nextA; rw [if_pos (by omega)]
      show (match nxt 0 ev with | some t => ((t : Int), (0 : Int)) | none => (0, 140)) = _
      rw [this]
    rcases hs with ⟨h1, h2⟩ | ⟨h1, h2⟩ | ⟨h1, h2, h3⟩
    · exact walk_other_none a c xs w h _ rfl ev hev hne _ _ h1 h2 hA
    · obtain ⟨hn, r, hx⟩ := runS_up _ h2
      exact walk_other_in a c xs w h _ rfl ev hev hne _ _ h1 hA (by omega) r hx
    · obtain ⟨hn, r, hx⟩ := runS_up _ h3
      exact walk_other_out a c xs w h _ rfl ev hev hne _ _ h1 h2 hA (by omega) r hx
theorem own : ownKnob Try.prog.godebug = none := by kernel_rfl

set_option maxRecDepth 100000 in
theorem lifted (os : Os) (started : os.Started) (H : Type) (enc : TypeId × Value → H) :
    ReturnsInHanded {} Try.checked os 5 .any (Rows.streamFirstSpec.pre6 enc Try.prog Try.f5 Rows.streamFirstRow.domain false) (Rows.streamFirstSpec.post enc Try.prog Try.f5 false true false false) := by
  refine returnsInHanded_of_change (C := Try.checked) own started (by kernel_rfl) Try.func5
    (ChangeSpec.witness6 (enc := enc) (C := Try.checked) false ⟨#[], #[.int .i64 0, .slice none 0 0], []⟩ 8 (by kernel_rfl) (by kernel_rfl) (by kernel_rfl) (by kernel_rfl)) ?_
  intro W base args ds gs before hval0 hW hcnd _
  have hval : ∀ (j : Nat) t v, Try.f5.params[j]? = some t → args[j]? = some v → Value.okWide Try.prog W .any base t v := hval0
  have hW' := hW
  obtain ⟨p, q, hA0, hV, rfl, hfz, hnd⟩ := hW
  have hA : DataW.TrodAll enc Try.prog W 0 (fun _ => true) true Try.f5.params.toList args.toList ds p := hA0
  rw [Try.params5] at hA hval
  obtain ⟨v0, vs0, d0, ds0, p0, q0, hargs, rfl, rfl, h0, r0⟩ := trodAll_cons hA
  obtain ⟨v1, vs1, d1, ds1, p1, q1, rfl, rfl, rfl, h1, r1⟩ := trodAll_cons r0
  obtain ⟨rfl, rfl, rfl⟩ := trodAll_nil r1
  obtain rfl : args = #[v0, v1] := by cases args; simp_all
  obtain ⟨rfl, rfl⟩ := trodVars_none hV
  obtain ⟨a0, rfl, rfl, rfl, w0⟩ := open_int Try.underlying3 (hval 0 3 v0 rfl rfl) h0
  obtain ⟨a1, xs1, c1, rfl, w1⟩ := open_nums (hval 1 22 v1 rfl rfl) h1
  refine (walk a0 a1 xs1 c1 w0 w1 W rfl).mono fun e W' ⟨he, hb⟩ => ?_
  subst he
  exact ⟨_, rfl, law_post (by kernel_rfl) (by decide +kernel) rfl rfl Try.underlying4 hW' hb ⟨rfl, rfl, rfl⟩⟩

theorem over : Rows.streamFirstRow.holds Try.pinned (OpenSpec.ofChange Rows.streamFirstSpec) :=
  OpenClaim.holds_of_wide 5 Try.f5 rfl rfl rfl rfl rfl rfl rfl ⟨rfl, rfl, rfl, rfl, rfl⟩ rfl rfl rfl rfl rfl (by kernel_rfl) Try.func5 (by kernel_rfl)
    (of_decide_eq_true (by kernel_rfl)) (by unfold Func.isWrapper; first | (rw [if_pos (by decide +kernel)]; kernel_rfl) | (rw [if_neg (by decide +kernel)]; exact ⟨rfl, rfl⟩))
    (fun os started H enc _ => lifted os started H enc)

theorem proved : Rows.StreamFirstSaid := over

end streamFirst
end Go.Proofs.Ytfgkfhchnnkonaa
