/- StreamSides: a side that ended, and anything in an end, never goes on again: for every state and two lists of numbers. No condition. -/
import Derived.Test.YtfgkfhchnnkonaaStreamH
namespace Go.Proofs.Ytfgkfhchnnkonaa
open Go.RowKit

namespace streamSides
open Go.ChangeShapes Go.WideShapes Go.ChangeAt
attribute [local go_sem ↓] Go.wp_at_zero Go.wp_at_succ

set_option maxHeartbeats 2000000 in
theorem walk_bad (st : Int) (a : Option Addr) (c : Nat) (xs : List Int) (a2 : Option Addr) (c2 : Nat) (ys : List Int) (w : World) (h : IntsArg w a c xs) (h2 : IntsArg w a2 c2 ys) (L : Nat) (hL : (xs.take 20).length = L) (L2 : Nat) (hL2 : (ys.take 20).length = L2) (y z q : Int) (hr : runA st (xs.take 20) = (0, 0, 2)) (hr2 : runA 0 (ys.take 20) = (y, z, q)) :
    Calls Try.prog 8 #[.int .i64 st, .slice a xs.length c, .slice a2 ys.length c2] w fun e w' => e = .returned (.bool true) ∧ Below w.heap.size w w' := by
  have HL := Lib.hid hL
  have HL2 := Lib.hid hL2
  have HX := Lib.hid h
  have HX2 := Lib.hid h2
  have HR := Lib.hid hr
  have HR2 := Lib.hid hr2
  have hl20 : (xs.take 20).length ≤ 20 := by simp; omega
  have HL20 := Lib.hid hl20
  have hl202 : (ys.take 20).length ≤ 20 := by simp; omega
  have HL202 := Lib.hid hl202
  have HK := Lib.hid (Keeps.refl [] w)
  clear hl20 hl202 h h2 hL hL2 hr hr2
  go_enter Try.func8, Try.ntmps8
  go_wp2_with (fail)
  refine (shown_any _).mono ?_
  rintro r w1 ⟨rfl, hk⟩
  have HK := Lib.hid (HK.out.trans hk)
  clear hk
  go_wp2_with (fail)
  refine (few_any a c xs _ (HX.out.keeps HK.out)).mono ?_
  rintro r w1 ⟨rfl, rfl⟩
  rw [HL.out]
  go_wp2_with (fail)
  refine (few_any a2 c2 ys _ (HX2.out.keeps HK.out)).mono ?_
  rintro r w1 ⟨rfl, rfl⟩
  rw [HL2.out]
  go_wp2_with (fail)
  have hr1 := run_arg st a c (xs.take 20) _ ((HX.out.take 20).keeps HK.out) HL20.out _ _ _ HR.out
  rw [HL.out] at hr1
  refine hr1.mono ?_
  clear hr1
  rintro r w1 ⟨rfl, hk⟩
  have HK := Lib.hid (HK.out.trans hk)
  clear hk
  go_wp2_with (fail)
  have hr1 := run_arg _ a2 c2 (ys.take 20) _ ((HX2.out.take 20).keeps HK.out) HL202.out _ _ _ HR2.out
  rw [HL2.out] at hr1
  refine hr1.mono ?_
  clear hr1
  rintro r w1 ⟨rfl, hk⟩
  have HK := Lib.hid (HK.out.trans hk)
  clear hk
  go_wp2_with (fail)
  go_ret
  exact ⟨rfl, HK.out.below (Nat.le_refl _) (by simp)⟩

set_option maxHeartbeats 2000000 in
theorem walk_0_0 (st : Int) (a : Option Addr) (c : Nat) (xs : List Int) (a2 : Option Addr) (c2 : Nat) (ys : List Int) (w : World) (h : IntsArg w a c xs) (h2 : IntsArg w a2 c2 ys) (L : Nat) (hL : (xs.take 20).length = L) (L2 : Nat) (hL2 : (ys.take 20).length = L2) (y z : Int) (hr : runA st (xs.take 20) = (0, y, 0)) (hr2 : runA 0 (ys.take 20) = (0, z, 0)) :
    Calls Try.prog 8 #[.int .i64 st, .slice a xs.length c, .slice a2 ys.length c2] w fun e w' => e = .returned (.bool true) ∧ Below w.heap.size w w' := by
  have HL := Lib.hid hL
  have HL2 := Lib.hid hL2
  have HX := Lib.hid h
  have HX2 := Lib.hid h2
  have HR := Lib.hid hr
  have HR2 := Lib.hid hr2
  have hl20 : (xs.take 20).length ≤ 20 := by simp; omega
  have HL20 := Lib.hid hl20
  have hl202 : (ys.take 20).length ≤ 20 := by simp; omega
  have HL202 := Lib.hid hl202
  have HK := Lib.hid (Keeps.refl [] w)
  clear hl20 hl202 h h2 hL hL2 hr hr2
  go_enter Try.func8, Try.ntmps8
  go_wp2_with (fail)
  refine (shown_any _).mono ?_
  rintro r w1 ⟨rfl, hk⟩
  have HK := Lib.hid (HK.out.trans hk)
  clear hk
  go_wp2_with (fail)
  refine (few_any a c xs _ (HX.out.keeps HK.out)).mono ?_
  rintro r w1 ⟨rfl, rfl⟩
  rw [HL.out]
  go_wp2_with (fail)
  refine (few_any a2 c2 ys _ (HX2.out.keeps HK.out)).mono ?_
  rintro r w1 ⟨rfl, rfl⟩
  rw [HL2.out]
  go_wp2_with (fail)
  have hr1 := run_arg st a c (xs.take 20) _ ((HX.out.take 20).keeps HK.out) HL20.out _ _ _ HR.out
  rw [HL.out] at hr1
  refine hr1.mono ?_
  clear hr1
  rintro r w1 ⟨rfl, hk⟩
  have HK := Lib.hid (HK.out.trans hk)
  clear hk
  go_wp2_with (fail)
  have hr1 := run_arg _ a2 c2 (ys.take 20) _ ((HX2.out.take 20).keeps HK.out) HL202.out _ _ _ HR2.out
  rw [HL2.out] at hr1
  refine hr1.mono ?_
  clear hr1
  rintro r w1 ⟨rfl, hk⟩
  have HK := Lib.hid (HK.out.trans hk)
  clear hk
  go_wp2_with (fail)
  refine (isEnd_eq 0 false (by decide) _).mono ?_
  rintro r w1 ⟨rfl, hk⟩
  have HK := Lib.hid (HK.out.trans hk)
  clear hk
  go_wp2_with (fail)
  go_ret
  exact ⟨rfl, HK.out.below (Nat.le_refl _) (by simp)⟩

set_option maxHeartbeats 2000000 in
theorem walk_0_1 (st : Int) (a : Option Addr) (c : Nat) (xs : List Int) (a2 : Option Addr) (c2 : Nat) (ys : List Int) (w : World) (h : IntsArg w a c xs) (h2 : IntsArg w a2 c2 ys) (L : Nat) (hL : (xs.take 20).length = L) (L2 : Nat) (hL2 : (ys.take 20).length = L2) (y z : Int) (hr : runA st (xs.take 20) = (0, y, 0)) (hr2 : runA 0 (ys.take 20) = (1, z, 0)) :
    Calls Try.prog 8 #[.int .i64 st, .slice a xs.length c, .slice a2 ys.length c2] w fun e w' => e = .returned (.bool true) ∧ Below w.heap.size w w' := by
  have HL := Lib.hid hL
  have HL2 := Lib.hid hL2
  have HX := Lib.hid h
  have HX2 := Lib.hid h2
  have HR := Lib.hid hr
  have HR2 := Lib.hid hr2
  have hl20 : (xs.take 20).length ≤ 20 := by simp; omega
  have HL20 := Lib.hid hl20
  have hl202 : (ys.take 20).length ≤ 20 := by simp; omega
  have HL202 := Lib.hid hl202
  have HK := Lib.hid (Keeps.refl [] w)
  clear hl20 hl202 h h2 hL hL2 hr hr2
  go_enter Try.func8, Try.ntmps8
  go_wp2_with (fail)
  refine (shown_any _).mono ?_
  rintro r w1 ⟨rfl, hk⟩
  have HK := Lib.hid (HK.out.trans hk)
  clear hk
  go_wp2_with (fail)
  refine (few_any a c xs _ (HX.out.keeps HK.out)).mono ?_
  rintro r w1 ⟨rfl, rfl⟩
  rw [HL.out]
  go_wp2_with (fail)
  refine (few_any a2 c2 ys _ (HX2.out.keeps HK.out)).mono ?_
  rintro r w1 ⟨rfl, rfl⟩
  rw [HL2.out]
  go_wp2_with (fail)
  have hr1 := run_arg st a c (xs.take 20) _ ((HX.out.take 20).keeps HK.out) HL20.out _ _ _ HR.out
  rw [HL.out] at hr1
  refine hr1.mono ?_
  clear hr1
  rintro r w1 ⟨rfl, hk⟩
  have HK := Lib.hid (HK.out.trans hk)
  clear hk
  go_wp2_with (fail)
  have hr1 := run_arg _ a2 c2 (ys.take 20) _ ((HX2.out.take 20).keeps HK.out) HL202.out _ _ _ HR2.out
  rw [HL2.out] at hr1
  refine hr1.mono ?_
  clear hr1
  rintro r w1 ⟨rfl, hk⟩
  have HK := Lib.hid (HK.out.trans hk)
  clear hk
  go_wp2_with (fail)
  refine (isEnd_eq 0 false (by decide) _).mono ?_
  rintro r w1 ⟨rfl, hk⟩
  have HK := Lib.hid (HK.out.trans hk)
  clear hk
  go_wp2_with (fail)
  go_ret
  exact ⟨rfl, HK.out.below (Nat.le_refl _) (by simp)⟩

set_option maxHeartbeats 2000000 in
theorem walk_0_2 (st : Int) (a : Option Addr) (c : Nat) (xs : List Int) (a2 : Option Addr) (c2 : Nat) (ys : List Int) (w : World) (h : IntsArg w a c xs) (h2 : IntsArg w a2 c2 ys) (L : Nat) (hL : (xs.take 20).length = L) (L2 : Nat) (hL2 : (ys.take 20).length = L2) (y z : Int) (hr : runA st (xs.take 20) = (0, y, 0)) (hr2 : runA 0 (ys.take 20) = (2, z, 0)) :
    Calls Try.prog 8 #[.int .i64 st, .slice a xs.length c, .slice a2 ys.length c2] w fun e w' => e = .returned (.bool true) ∧ Below w.heap.size w w' := by
  have HL := Lib.hid hL
  have HL2 := Lib.hid hL2
  have HX := Lib.hid h
  have HX2 := Lib.hid h2
  have HR := Lib.hid hr
  have HR2 := Lib.hid hr2
  have hl20 : (xs.take 20).length ≤ 20 := by simp; omega
  have HL20 := Lib.hid hl20
  have hl202 : (ys.take 20).length ≤ 20 := by simp; omega
  have HL202 := Lib.hid hl202
  have HK := Lib.hid (Keeps.refl [] w)
  clear hl20 hl202 h h2 hL hL2 hr hr2
  go_enter Try.func8, Try.ntmps8
  go_wp2_with (fail)
  refine (shown_any _).mono ?_
  rintro r w1 ⟨rfl, hk⟩
  have HK := Lib.hid (HK.out.trans hk)
  clear hk
  go_wp2_with (fail)
  refine (few_any a c xs _ (HX.out.keeps HK.out)).mono ?_
  rintro r w1 ⟨rfl, rfl⟩
  rw [HL.out]
  go_wp2_with (fail)
  refine (few_any a2 c2 ys _ (HX2.out.keeps HK.out)).mono ?_
  rintro r w1 ⟨rfl, rfl⟩
  rw [HL2.out]
  go_wp2_with (fail)
  have hr1 := run_arg st a c (xs.take 20) _ ((HX.out.take 20).keeps HK.out) HL20.out _ _ _ HR.out
  rw [HL.out] at hr1
  refine hr1.mono ?_
  clear hr1
  rintro r w1 ⟨rfl, hk⟩
  have HK := Lib.hid (HK.out.trans hk)
  clear hk
  go_wp2_with (fail)
  have hr1 := run_arg _ a2 c2 (ys.take 20) _ ((HX2.out.take 20).keeps HK.out) HL202.out _ _ _ HR2.out
  rw [HL2.out] at hr1
  refine hr1.mono ?_
  clear hr1
  rintro r w1 ⟨rfl, hk⟩
  have HK := Lib.hid (HK.out.trans hk)
  clear hk
  go_wp2_with (fail)
  refine (isEnd_eq 0 false (by decide) _).mono ?_
  rintro r w1 ⟨rfl, hk⟩
  have HK := Lib.hid (HK.out.trans hk)
  clear hk
  go_wp2_with (fail)
  go_ret
  exact ⟨rfl, HK.out.below (Nat.le_refl _) (by simp)⟩

set_option maxHeartbeats 2000000 in
theorem walk_0_3 (st : Int) (a : Option Addr) (c : Nat) (xs : List Int) (a2 : Option Addr) (c2 : Nat) (ys : List Int) (w : World) (h : IntsArg w a c xs) (h2 : IntsArg w a2 c2 ys) (L : Nat) (hL : (xs.take 20).length = L) (L2 : Nat) (hL2 : (ys.take 20).length = L2) (y z : Int) (hr : runA st (xs.take 20) = (0, y, 0)) (hr2 : runA 0 (ys.take 20) = (3, z, 0)) :
    Calls Try.prog 8 #[.int .i64 st, .slice a xs.length c, .slice a2 ys.length c2] w fun e w' => e = .returned (.bool true) ∧ Below w.heap.size w w' := by
  have HL := Lib.hid hL
  have HL2 := Lib.hid hL2
  have HX := Lib.hid h
  have HX2 := Lib.hid h2
  have HR := Lib.hid hr
  have HR2 := Lib.hid hr2
  have hl20 : (xs.take 20).length ≤ 20 := by simp; omega
  have HL20 := Lib.hid hl20
  have hl202 : (ys.take 20).length ≤ 20 := by simp; omega
  have HL202 := Lib.hid hl202
  have HK := Lib.hid (Keeps.refl [] w)
  clear hl20 hl202 h h2 hL hL2 hr hr2
  go_enter Try.func8, Try.ntmps8
  go_wp2_with (fail)
  refine (shown_any _).mono ?_
  rintro r w1 ⟨rfl, hk⟩
  have HK := Lib.hid (HK.out.trans hk)
  clear hk
  go_wp2_with (fail)
  refine (few_any a c xs _ (HX.out.keeps HK.out)).mono ?_
  rintro r w1 ⟨rfl, rfl⟩
  rw [HL.out]
  go_wp2_with (fail)
  refine (few_any a2 c2 ys _ (HX2.out.keeps HK.out)).mono ?_
  rintro r w1 ⟨rfl, rfl⟩
  rw [HL2.out]
  go_wp2_with (fail)
  have hr1 := run_arg st a c (xs.take 20) _ ((HX.out.take 20).keeps HK.out) HL20.out _ _ _ HR.out
  rw [HL.out] at hr1
  refine hr1.mono ?_
  clear hr1
  rintro r w1 ⟨rfl, hk⟩
  have HK := Lib.hid (HK.out.trans hk)
  clear hk
  go_wp2_with (fail)
  have hr1 := run_arg _ a2 c2 (ys.take 20) _ ((HX2.out.take 20).keeps HK.out) HL202.out _ _ _ HR2.out
  rw [HL2.out] at hr1
  refine hr1.mono ?_
  clear hr1
  rintro r w1 ⟨rfl, hk⟩
  have HK := Lib.hid (HK.out.trans hk)
  clear hk
  go_wp2_with (fail)
  refine (isEnd_eq 0 false (by decide) _).mono ?_
  rintro r w1 ⟨rfl, hk⟩
  have HK := Lib.hid (HK.out.trans hk)
  clear hk
  go_wp2_with (fail)
  go_ret
  exact ⟨rfl, HK.out.below (Nat.le_refl _) (by simp)⟩

set_option maxHeartbeats 2000000 in
theorem walk_0_4 (st : Int) (a : Option Addr) (c : Nat) (xs : List Int) (a2 : Option Addr) (c2 : Nat) (ys : List Int) (w : World) (h : IntsArg w a c xs) (h2 : IntsArg w a2 c2 ys) (L : Nat) (hL : (xs.take 20).length = L) (L2 : Nat) (hL2 : (ys.take 20).length = L2) (y z : Int) (hr : runA st (xs.take 20) = (0, y, 0)) (hr2 : runA 0 (ys.take 20) = (4, z, 0)) :
    Calls Try.prog 8 #[.int .i64 st, .slice a xs.length c, .slice a2 ys.length c2] w fun e w' => e = .returned (.bool true) ∧ Below w.heap.size w w' := by
  have HL := Lib.hid hL
  have HL2 := Lib.hid hL2
  have HX := Lib.hid h
  have HX2 := Lib.hid h2
  have HR := Lib.hid hr
  have HR2 := Lib.hid hr2
  have hl20 : (xs.take 20).length ≤ 20 := by simp; omega
  have HL20 := Lib.hid hl20
  have hl202 : (ys.take 20).length ≤ 20 := by simp; omega
  have HL202 := Lib.hid hl202
  have HK := Lib.hid (Keeps.refl [] w)
  clear hl20 hl202 h h2 hL hL2 hr hr2
  go_enter Try.func8, Try.ntmps8
  go_wp2_with (fail)
  refine (shown_any _).mono ?_
  rintro r w1 ⟨rfl, hk⟩
  have HK := Lib.hid (HK.out.trans hk)
  clear hk
  go_wp2_with (fail)
  refine (few_any a c xs _ (HX.out.keeps HK.out)).mono ?_
  rintro r w1 ⟨rfl, rfl⟩
  rw [HL.out]
  go_wp2_with (fail)
  refine (few_any a2 c2 ys _ (HX2.out.keeps HK.out)).mono ?_
  rintro r w1 ⟨rfl, rfl⟩
  rw [HL2.out]
  go_wp2_with (fail)
  have hr1 := run_arg st a c (xs.take 20) _ ((HX.out.take 20).keeps HK.out) HL20.out _ _ _ HR.out
  rw [HL.out] at hr1
  refine hr1.mono ?_
  clear hr1
  rintro r w1 ⟨rfl, hk⟩
  have HK := Lib.hid (HK.out.trans hk)
  clear hk
  go_wp2_with (fail)
  have hr1 := run_arg _ a2 c2 (ys.take 20) _ ((HX2.out.take 20).keeps HK.out) HL202.out _ _ _ HR2.out
  rw [HL2.out] at hr1
  refine hr1.mono ?_
  clear hr1
  rintro r w1 ⟨rfl, hk⟩
  have HK := Lib.hid (HK.out.trans hk)
  clear hk
  go_wp2_with (fail)
  refine (isEnd_eq 0 false (by decide) _).mono ?_
  rintro r w1 ⟨rfl, hk⟩
  have HK := Lib.hid (HK.out.trans hk)
  clear hk
  go_wp2_with (fail)
  go_ret
  exact ⟨rfl, HK.out.below (Nat.le_refl _) (by simp)⟩

set_option maxHeartbeats 2000000 in
theorem walk_0_5 (st : Int) (a : Option Addr) (c : Nat) (xs : List Int) (a2 : Option Addr) (c2 : Nat) (ys : List Int) (w : World) (h : IntsArg w a c xs) (h2 : IntsArg w a2 c2 ys) (L : Nat) (hL : (xs.take 20).length = L) (L2 : Nat) (hL2 : (ys.take 20).length = L2) (y z : Int) (hr : runA st (xs.take 20) = (0, y, 0)) (hr2 : runA 0 (ys.take 20) = (5, z, 0)) :
    Calls Try.prog 8 #[.int .i64 st, .slice a xs.length c, .slice a2 ys.length c2] w fun e w' => e = .returned (.bool true) ∧ Below w.heap.size w w' := by
  have HL := Lib.hid hL
  have HL2 := Lib.hid hL2
  have HX := Lib.hid h
  have HX2 := Lib.hid h2
  have HR := Lib.hid hr
  have HR2 := Lib.hid hr2
  have hl20 : (xs.take 20).length ≤ 20 := by simp; omega
  have HL20 := Lib.hid hl20
  have hl202 : (ys.take 20).length ≤ 20 := by simp; omega
  have HL202 := Lib.hid hl202
  have HK := Lib.hid (Keeps.refl [] w)
  clear hl20 hl202 h h2 hL hL2 hr hr2
  go_enter Try.func8, Try.ntmps8
  go_wp2_with (fail)
  refine (shown_any _).mono ?_
  rintro r w1 ⟨rfl, hk⟩
  have HK := Lib.hid (HK.out.trans hk)
  clear hk
  go_wp2_with (fail)
  refine (few_any a c xs _ (HX.out.keeps HK.out)).mono ?_
  rintro r w1 ⟨rfl, rfl⟩
  rw [HL.out]
  go_wp2_with (fail)
  refine (few_any a2 c2 ys _ (HX2.out.keeps HK.out)).mono ?_
  rintro r w1 ⟨rfl, rfl⟩
  rw [HL2.out]
  go_wp2_with (fail)
  have hr1 := run_arg st a c (xs.take 20) _ ((HX.out.take 20).keeps HK.out) HL20.out _ _ _ HR.out
  rw [HL.out] at hr1
  refine hr1.mono ?_
  clear hr1
  rintro r w1 ⟨rfl, hk⟩
  have HK := Lib.hid (HK.out.trans hk)
  clear hk
  go_wp2_with (fail)
  have hr1 := run_arg _ a2 c2 (ys.take 20) _ ((HX2.out.take 20).keeps HK.out) HL202.out _ _ _ HR2.out
  rw [HL2.out] at hr1
  refine hr1.mono ?_
  clear hr1
  rintro r w1 ⟨rfl, hk⟩
  have HK := Lib.hid (HK.out.trans hk)
  clear hk
  go_wp2_with (fail)
  refine (isEnd_eq 0 false (by decide) _).mono ?_
  rintro r w1 ⟨rfl, hk⟩
  have HK := Lib.hid (HK.out.trans hk)
  clear hk
  go_wp2_with (fail)
  go_ret
  exact ⟨rfl, HK.out.below (Nat.le_refl _) (by simp)⟩

set_option maxHeartbeats 2000000 in
theorem walk_0_6 (st : Int) (a : Option Addr) (c : Nat) (xs : List Int) (a2 : Option Addr) (c2 : Nat) (ys : List Int) (w : World) (h : IntsArg w a c xs) (h2 : IntsArg w a2 c2 ys) (L : Nat) (hL : (xs.take 20).length = L) (L2 : Nat) (hL2 : (ys.take 20).length = L2) (y z : Int) (hr : runA st (xs.take 20) = (0, y, 0)) (hr2 : runA 0 (ys.take 20) = (6, z, 0)) :
    Calls Try.prog 8 #[.int .i64 st, .slice a xs.length c, .slice a2 ys.length c2] w fun e w' => e = .returned (.bool true) ∧ Below w.heap.size w w' := by
  have HL := Lib.hid hL
  have HL2 := Lib.hid hL2
  have HX := Lib.hid h
  have HX2 := Lib.hid h2
  have HR := Lib.hid hr
  have HR2 := Lib.hid hr2
  have hl20 : (xs.take 20).length ≤ 20 := by simp; omega
  have HL20 := Lib.hid hl20
  have hl202 : (ys.take 20).length ≤ 20 := by simp; omega
  have HL202 := Lib.hid hl202
  have HK := Lib.hid (Keeps.refl [] w)
  clear hl20 hl202 h h2 hL hL2 hr hr2
  go_enter Try.func8, Try.ntmps8
  go_wp2_with (fail)
  refine (shown_any _).mono ?_
  rintro r w1 ⟨rfl, hk⟩
  have HK := Lib.hid (HK.out.trans hk)
  clear hk
  go_wp2_with (fail)
  refine (few_any a c xs _ (HX.out.keeps HK.out)).mono ?_
  rintro r w1 ⟨rfl, rfl⟩
  rw [HL.out]
  go_wp2_with (fail)
  refine (few_any a2 c2 ys _ (HX2.out.keeps HK.out)).mono ?_
  rintro r w1 ⟨rfl, rfl⟩
  rw [HL2.out]
  go_wp2_with (fail)
  have hr1 := run_arg st a c (xs.take 20) _ ((HX.out.take 20).keeps HK.out) HL20.out _ _ _ HR.out
  rw [HL.out] at hr1
  refine hr1.mono ?_
  clear hr1
  rintro r w1 ⟨rfl, hk⟩
  have HK := Lib.hid (HK.out.trans hk)
  clear hk
  go_wp2_with (fail)
  have hr1 := run_arg _ a2 c2 (ys.take 20) _ ((HX2.out.take 20).keeps HK.out) HL202.out _ _ _ HR2.out
  rw [HL2.out] at hr1
  refine hr1.mono ?_
  clear hr1
  rintro r w1 ⟨rfl, hk⟩
  have HK := Lib.hid (HK.out.trans hk)
  clear hk
  go_wp2_with (fail)
  refine (isEnd_eq 0 false (by decide) _).mono ?_
  rintro r w1 ⟨rfl, hk⟩
  have HK := Lib.hid (HK.out.trans hk)
  clear hk
  go_wp2_with (fail)
  go_ret
  exact ⟨rfl, HK.out.below (Nat.le_refl _) (by simp)⟩

set_option maxHeartbeats 2000000 in
theorem walk_1_1 (st : Int) (a : Option Addr) (c : Nat) (xs : List Int) (a2 : Option Addr) (c2 : Nat) (ys : List Int) (w : World) (h : IntsArg w a c xs) (h2 : IntsArg w a2 c2 ys) (L : Nat) (hL : (xs.take 20).length = L) (L2 : Nat) (hL2 : (ys.take 20).length = L2) (y z : Int) (hr : runA st (xs.take 20) = (1, y, 0)) (hr2 : runA 1 (ys.take 20) = (1, z, 0)) :
    Calls Try.prog 8 #[.int .i64 st, .slice a xs.length c, .slice a2 ys.length c2] w fun e w' => e = .returned (.bool true) ∧ Below w.heap.size w w' := by
  have HL := Lib.hid hL
  have HL2 := Lib.hid hL2
  have HX := Lib.hid h
  have HX2 := Lib.hid h2
  have HR := Lib.hid hr
  have HR2 := Lib.hid hr2
  have hl20 : (xs.take 20).length ≤ 20 := by simp; omega
  have HL20 := Lib.hid hl20
  have hl202 : (ys.take 20).length ≤ 20 := by simp; omega
  have HL202 := Lib.hid hl202
  have HK := Lib.hid (Keeps.refl [] w)
  clear hl20 hl202 h h2 hL hL2 hr hr2
  go_enter Try.func8, Try.ntmps8
  go_wp2_with (fail)
  refine (shown_any _).mono ?_
  rintro r w1 ⟨rfl, hk⟩
  have HK := Lib.hid (HK.out.trans hk)
  clear hk
  go_wp2_with (fail)
  refine (few_any a c xs _ (HX.out.keeps HK.out)).mono ?_
  rintro r w1 ⟨rfl, rfl⟩
  rw [HL.out]
  go_wp2_with (fail)
  refine (few_any a2 c2 ys _ (HX2.out.keeps HK.out)).mono ?_
  rintro r w1 ⟨rfl, rfl⟩
  rw [HL2.out]
  go_wp2_with (fail)
  have hr1 := run_arg st a c (xs.take 20) _ ((HX.out.take 20).keeps HK.out) HL20.out _ _ _ HR.out
  rw [HL.out] at hr1
  refine hr1.mono ?_
  clear hr1
  rintro r w1 ⟨rfl, hk⟩
  have HK := Lib.hid (HK.out.trans hk)
  clear hk
  go_wp2_with (fail)
  have hr1 := run_arg _ a2 c2 (ys.take 20) _ ((HX2.out.take 20).keeps HK.out) HL202.out _ _ _ HR2.out
  rw [HL2.out] at hr1
  refine hr1.mono ?_
  clear hr1
  rintro r w1 ⟨rfl, hk⟩
  have HK := Lib.hid (HK.out.trans hk)
  clear hk
  go_wp2_with (fail)
  refine (isEnd_eq 1 false (by decide) _).mono ?_
  rintro r w1 ⟨rfl, hk⟩
  have HK := Lib.hid (HK.out.trans hk)
  clear hk
  go_wp2_with (fail)
  go_ret
  exact ⟨rfl, HK.out.below (Nat.le_refl _) (by simp)⟩

set_option maxHeartbeats 2000000 in
theorem walk_1_2 (st : Int) (a : Option Addr) (c : Nat) (xs : List Int) (a2 : Option Addr) (c2 : Nat) (ys : List Int) (w : World) (h : IntsArg w a c xs) (h2 : IntsArg w a2 c2 ys) (L : Nat) (hL : (xs.take 20).length = L) (L2 : Nat) (hL2 : (ys.take 20).length = L2) (y z : Int) (hr : runA st (xs.take 20) = (1, y, 0)) (hr2 : runA 1 (ys.take 20) = (2, z, 0)) :
    Calls Try.prog 8 #[.int .i64 st, .slice a xs.length c, .slice a2 ys.length c2] w fun e w' => e = .returned (.bool true) ∧ Below w.heap.size w w' := by
  have HL := Lib.hid hL
  have HL2 := Lib.hid hL2
  have HX := Lib.hid h
  have HX2 := Lib.hid h2
  have HR := Lib.hid hr
  have HR2 := Lib.hid hr2
  have hl20 : (xs.take 20).length ≤ 20 := by simp; omega
  have HL20 := Lib.hid hl20
  have hl202 : (ys.take 20).length ≤ 20 := by simp; omega
  have HL202 := Lib.hid hl202
  have HK := Lib.hid (Keeps.refl [] w)
  clear hl20 hl202 h h2 hL hL2 hr hr2
  go_enter Try.func8, Try.ntmps8
  go_wp2_with (fail)
  refine (shown_any _).mono ?_
  rintro r w1 ⟨rfl, hk⟩
  have HK := Lib.hid (HK.out.trans hk)
  clear hk
  go_wp2_with (fail)
  refine (few_any a c xs _ (HX.out.keeps HK.out)).mono ?_
  rintro r w1 ⟨rfl, rfl⟩
  rw [HL.out]
  go_wp2_with (fail)
  refine (few_any a2 c2 ys _ (HX2.out.keeps HK.out)).mono ?_
  rintro r w1 ⟨rfl, rfl⟩
  rw [HL2.out]
  go_wp2_with (fail)
  have hr1 := run_arg st a c (xs.take 20) _ ((HX.out.take 20).keeps HK.out) HL20.out _ _ _ HR.out
  rw [HL.out] at hr1
  refine hr1.mono ?_
  clear hr1
  rintro r w1 ⟨rfl, hk⟩
  have HK := Lib.hid (HK.out.trans hk)
  clear hk
  go_wp2_with (fail)
  have hr1 := run_arg _ a2 c2 (ys.take 20) _ ((HX2.out.take 20).keeps HK.out) HL202.out _ _ _ HR2.out
  rw [HL2.out] at hr1
  refine hr1.mono ?_
  clear hr1
  rintro r w1 ⟨rfl, hk⟩
  have HK := Lib.hid (HK.out.trans hk)
  clear hk
  go_wp2_with (fail)
  refine (isEnd_eq 1 false (by decide) _).mono ?_
  rintro r w1 ⟨rfl, hk⟩
  have HK := Lib.hid (HK.out.trans hk)
  clear hk
  go_wp2_with (fail)
  go_ret
  exact ⟨rfl, HK.out.below (Nat.le_refl _) (by simp)⟩

set_option maxHeartbeats 2000000 in
theorem walk_1_3 (st : Int) (a : Option Addr) (c : Nat) (xs : List Int) (a2 : Option Addr) (c2 : Nat) (ys : List Int) (w : World) (h : IntsArg w a c xs) (h2 : IntsArg w a2 c2 ys) (L : Nat) (hL : (xs.take 20).length = L) (L2 : Nat) (hL2 : (ys.take 20).length = L2) (y z : Int) (hr : runA st (xs.take 20) = (1, y, 0)) (hr2 : runA 1 (ys.take 20) = (3, z, 0)) :
    Calls Try.prog 8 #[.int .i64 st, .slice a xs.length c, .slice a2 ys.length c2] w fun e w' => e = .returned (.bool true) ∧ Below w.heap.size w w' := by
  have HL := Lib.hid hL
  have HL2 := Lib.hid hL2
  have HX := Lib.hid h
  have HX2 := Lib.hid h2
  have HR := Lib.hid hr
  have HR2 := Lib.hid hr2
  have hl20 : (xs.take 20).length ≤ 20 := by simp; omega
  have HL20 := Lib.hid hl20
  have hl202 : (ys.take 20).length ≤ 20 := by simp; omega
  have HL202 := Lib.hid hl202
  have HK := Lib.hid (Keeps.refl [] w)
  clear hl20 hl202 h h2 hL hL2 hr hr2
  go_enter Try.func8, Try.ntmps8
  go_wp2_with (fail)
  refine (shown_any _).mono ?_
  rintro r w1 ⟨rfl, hk⟩
  have HK := Lib.hid (HK.out.trans hk)
  clear hk
  go_wp2_with (fail)
  refine (few_any a c xs _ (HX.out.keeps HK.out)).mono ?_
  rintro r w1 ⟨rfl, rfl⟩
  rw [HL.out]
  go_wp2_with (fail)
  refine (few_any a2 c2 ys _ (HX2.out.keeps HK.out)).mono ?_
  rintro r w1 ⟨rfl, rfl⟩
  rw [HL2.out]
  go_wp2_with (fail)
  have hr1 := run_arg st a c (xs.take 20) _ ((HX.out.take 20).keeps HK.out) HL20.out _ _ _ HR.out
  rw [HL.out] at hr1
  refine hr1.mono ?_
  clear hr1
  rintro r w1 ⟨rfl, hk⟩
  have HK := Lib.hid (HK.out.trans hk)
  clear hk
  go_wp2_with (fail)
  have hr1 := run_arg _ a2 c2 (ys.take 20) _ ((HX2.out.take 20).keeps HK.out) HL202.out _ _ _ HR2.out
  rw [HL2.out] at hr1
  refine hr1.mono ?_
  clear hr1
  rintro r w1 ⟨rfl, hk⟩
  have HK := Lib.hid (HK.out.trans hk)
  clear hk
  go_wp2_with (fail)
  refine (isEnd_eq 1 false (by decide) _).mono ?_
  rintro r w1 ⟨rfl, hk⟩
  have HK := Lib.hid (HK.out.trans hk)
  clear hk
  go_wp2_with (fail)
  go_ret
  exact ⟨rfl, HK.out.below (Nat.le_refl _) (by simp)⟩

set_option maxHeartbeats 2000000 in
theorem walk_1_4 (st : Int) (a : Option Addr) (c : Nat) (xs : List Int) (a2 : Option Addr) (c2 : Nat) (ys : List Int) (w : World) (h : IntsArg w a c xs) (h2 : IntsArg w a2 c2 ys) (L : Nat) (hL : (xs.take 20).length = L) (L2 : Nat) (hL2 : (ys.take 20).length = L2) (y z : Int) (hr : runA st (xs.take 20) = (1, y, 0)) (hr2 : runA 1 (ys.take 20) = (4, z, 0)) :
    Calls Try.prog 8 #[.int .i64 st, .slice a xs.length c, .slice a2 ys.length c2] w fun e w' => e = .returned (.bool true) ∧ Below w.heap.size w w' := by
  have HL := Lib.hid hL
  have HL2 := Lib.hid hL2
  have HX := Lib.hid h
  have HX2 := Lib.hid h2
  have HR := Lib.hid hr
  have HR2 := Lib.hid hr2
  have hl20 : (xs.take 20).length ≤ 20 := by simp; omega
  have HL20 := Lib.hid hl20
  have hl202 : (ys.take 20).length ≤ 20 := by simp; omega
  have HL202 := Lib.hid hl202
  have HK := Lib.hid (Keeps.refl [] w)
  clear hl20 hl202 h h2 hL hL2 hr hr2
  go_enter Try.func8, Try.ntmps8
  go_wp2_with (fail)
  refine (shown_any _).mono ?_
  rintro r w1 ⟨rfl, hk⟩
  have HK := Lib.hid (HK.out.trans hk)
  clear hk
  go_wp2_with (fail)
  refine (few_any a c xs _ (HX.out.keeps HK.out)).mono ?_
  rintro r w1 ⟨rfl, rfl⟩
  rw [HL.out]
  go_wp2_with (fail)
  refine (few_any a2 c2 ys _ (HX2.out.keeps HK.out)).mono ?_
  rintro r w1 ⟨rfl, rfl⟩
  rw [HL2.out]
  go_wp2_with (fail)
  have hr1 := run_arg st a c (xs.take 20) _ ((HX.out.take 20).keeps HK.out) HL20.out _ _ _ HR.out
  rw [HL.out] at hr1
  refine hr1.mono ?_
  clear hr1
  rintro r w1 ⟨rfl, hk⟩
  have HK := Lib.hid (HK.out.trans hk)
  clear hk
  go_wp2_with (fail)
  have hr1 := run_arg _ a2 c2 (ys.take 20) _ ((HX2.out.take 20).keeps HK.out) HL202.out _ _ _ HR2.out
  rw [HL2.out] at hr1
  refine hr1.mono ?_
  clear hr1
  rintro r w1 ⟨rfl, hk⟩
  have HK := Lib.hid (HK.out.trans hk)
  clear hk
  go_wp2_with (fail)
  refine (isEnd_eq 1 false (by decide) _).mono ?_
  rintro r w1 ⟨rfl, hk⟩
  have HK := Lib.hid (HK.out.trans hk)
  clear hk
  go_wp2_with (fail)
  go_ret
  exact ⟨rfl, HK.out.below (Nat.le_refl _) (by simp)⟩

set_option maxHeartbeats 2000000 in
theorem walk_1_5 (st : Int) (a : Option Addr) (c : Nat) (xs : List Int) (a2 : Option Addr) (c2 : Nat) (ys : List Int) (w : World) (h : IntsArg w a c xs) (h2 : IntsArg w a2 c2 ys) (L : Nat) (hL : (xs.take 20).length = L) (L2 : Nat) (hL2 : (ys.take 20).length = L2) (y z : Int) (hr : runA st (xs.take 20) = (1, y, 0)) (hr2 : runA 1 (ys.take 20) = (5, z, 0)) :
    Calls Try.prog 8 #[.int .i64 st, .slice a xs.length c, .slice a2 ys.length c2] w fun e w' => e = .returned (.bool true) ∧ Below w.heap.size w w' := by
  have HL := Lib.hid hL
  have HL2 := Lib.hid hL2
  have HX := Lib.hid h
  have HX2 := Lib.hid h2
  have HR := Lib.hid hr
  have HR2 := Lib.hid hr2
  have hl20 : (xs.take 20).length ≤ 20 := by simp; omega
  have HL20 := Lib.hid hl20
  have hl202 : (ys.take 20).length ≤ 20 := by simp; omega
  have HL202 := Lib.hid hl202
  have HK := Lib.hid (Keeps.refl [] w)
  clear hl20 hl202 h h2 hL hL2 hr hr2
  go_enter Try.func8, Try.ntmps8
  go_wp2_with (fail)
  refine (shown_any _).mono ?_
  rintro r w1 ⟨rfl, hk⟩
  have HK := Lib.hid (HK.out.trans hk)
  clear hk
  go_wp2_with (fail)
  refine (few_any a c xs _ (HX.out.keeps HK.out)).mono ?_
  rintro r w1 ⟨rfl, rfl⟩
  rw [HL.out]
  go_wp2_with (fail)
  refine (few_any a2 c2 ys _ (HX2.out.keeps HK.out)).mono ?_
  rintro r w1 ⟨rfl, rfl⟩
  rw [HL2.out]
  go_wp2_with (fail)
  have hr1 := run_arg st a c (xs.take 20) _ ((HX.out.take 20).keeps HK.out) HL20.out _ _ _ HR.out
  rw [HL.out] at hr1
  refine hr1.mono ?_
  clear hr1
  rintro r w1 ⟨rfl, hk⟩
  have HK := Lib.hid (HK.out.trans hk)
  clear hk
  go_wp2_with (fail)
  have hr1 := run_arg _ a2 c2 (ys.take 20) _ ((HX2.out.take 20).keeps HK.out) HL202.out _ _ _ HR2.out
  rw [HL2.out] at hr1
  refine hr1.mono ?_
  clear hr1
  rintro r w1 ⟨rfl, hk⟩
  have HK := Lib.hid (HK.out.trans hk)
  clear hk
  go_wp2_with (fail)
  refine (isEnd_eq 1 false (by decide) _).mono ?_
  rintro r w1 ⟨rfl, hk⟩
  have HK := Lib.hid (HK.out.trans hk)
  clear hk
  go_wp2_with (fail)
  go_ret
  exact ⟨rfl, HK.out.below (Nat.le_refl _) (by simp)⟩

set_option maxHeartbeats 2000000 in
theorem walk_1_6 (st : Int) (a : Option Addr) (c : Nat) (xs : List Int) (a2 : Option Addr) (c2 : Nat) (ys : List Int) (w : World) (h : IntsArg w a c xs) (h2 : IntsArg w a2 c2 ys) (L : Nat) (hL : (xs.take 20).length = L) (L2 : Nat) (hL2 : (ys.take 20).length = L2) (y z : Int) (hr : runA st (xs.take 20) = (1, y, 0)) (hr2 : runA 1 (ys.take 20) = (6, z, 0)) :
    Calls Try.prog 8 #[.int .i64 st, .slice a xs.length c, .slice a2 ys.length c2] w fun e w' => e = .returned (.bool true) ∧ Below w.heap.size w w' := by
  have HL := Lib.hid hL
  have HL2 := Lib.hid hL2
  have HX := Lib.hid h
  have HX2 := Lib.hid h2
  have HR := Lib.hid hr
  have HR2 := Lib.hid hr2
  have hl20 : (xs.take 20).length ≤ 20 := by simp; omega
  have HL20 := Lib.hid hl20
  have hl202 : (ys.take 20).length ≤ 20 := by simp; omega
  have HL202 := Lib.hid hl202
  have HK := Lib.hid (Keeps.refl [] w)
  clear hl20 hl202 h h2 hL hL2 hr hr2
  go_enter Try.func8, Try.ntmps8
  go_wp2_with (fail)
  refine (shown_any _).mono ?_
  rintro r w1 ⟨rfl, hk⟩
  have HK := Lib.hid (HK.out.trans hk)
  clear hk
  go_wp2_with (fail)
  refine (few_any a c xs _ (HX.out.keeps HK.out)).mono ?_
  rintro r w1 ⟨rfl, rfl⟩
  rw [HL.out]
  go_wp2_with (fail)
  refine (few_any a2 c2 ys _ (HX2.out.keeps HK.out)).mono ?_
  rintro r w1 ⟨rfl, rfl⟩
  rw [HL2.out]
  go_wp2_with (fail)
  have hr1 := run_arg st a c (xs.take 20) _ ((HX.out.take 20).keeps HK.out) HL20.out _ _ _ HR.out
  rw [HL.out] at hr1
  refine hr1.mono ?_
  clear hr1
  rintro r w1 ⟨rfl, hk⟩
  have HK := Lib.hid (HK.out.trans hk)
  clear hk
  go_wp2_with (fail)
  have hr1 := run_arg _ a2 c2 (ys.take 20) _ ((HX2.out.take 20).keeps HK.out) HL202.out _ _ _ HR2.out
  rw [HL2.out] at hr1
  refine hr1.mono ?_
  clear hr1
  rintro r w1 ⟨rfl, hk⟩
  have HK := Lib.hid (HK.out.trans hk)
  clear hk
  go_wp2_with (fail)
  refine (isEnd_eq 1 false (by decide) _).mono ?_
  rintro r w1 ⟨rfl, hk⟩
  have HK := Lib.hid (HK.out.trans hk)
  clear hk
  go_wp2_with (fail)
  go_ret
  exact ⟨rfl, HK.out.below (Nat.le_refl _) (by simp)⟩

set_option maxHeartbeats 2000000 in
theorem walk_2_2 (st : Int) (a : Option Addr) (c : Nat) (xs : List Int) (a2 : Option Addr) (c2 : Nat) (ys : List Int) (w : World) (h : IntsArg w a c xs) (h2 : IntsArg w a2 c2 ys) (L : Nat) (hL : (xs.take 20).length = L) (L2 : Nat) (hL2 : (ys.take 20).length = L2) (y z : Int) (hr : runA st (xs.take 20) = (2, y, 0)) (hr2 : runA 2 (ys.take 20) = (2, z, 0)) :
    Calls Try.prog 8 #[.int .i64 st, .slice a xs.length c, .slice a2 ys.length c2] w fun e w' => e = .returned (.bool true) ∧ Below w.heap.size w w' := by
  have HL := Lib.hid hL
  have HL2 := Lib.hid hL2
  have HX := Lib.hid h
  have HX2 := Lib.hid h2
  have HR := Lib.hid hr
  have HR2 := Lib.hid hr2
  have hl20 : (xs.take 20).length ≤ 20 := by simp; omega
  have HL20 := Lib.hid hl20
  have hl202 : (ys.take 20).length ≤ 20 := by simp; omega
  have HL202 := Lib.hid hl202
  have HK := Lib.hid (Keeps.refl [] w)
  clear hl20 hl202 h h2 hL hL2 hr hr2
  go_enter Try.func8, Try.ntmps8
  go_wp2_with (fail)
  refine (shown_any _).mono ?_
  rintro r w1 ⟨rfl, hk⟩
  have HK := Lib.hid (HK.out.trans hk)
  clear hk
  go_wp2_with (fail)
  refine (few_any a c xs _ (HX.out.keeps HK.out)).mono ?_
  rintro r w1 ⟨rfl, rfl⟩
  rw [HL.out]
  go_wp2_with (fail)
  refine (few_any a2 c2 ys _ (HX2.out.keeps HK.out)).mono ?_
  rintro r w1 ⟨rfl, rfl⟩
  rw [HL2.out]
  go_wp2_with (fail)
  have hr1 := run_arg st a c (xs.take 20) _ ((HX.out.take 20).keeps HK.out) HL20.out _ _ _ HR.out
  rw [HL.out] at hr1
  refine hr1.mono ?_
  clear hr1
  rintro r w1 ⟨rfl, hk⟩
  have HK := Lib.hid (HK.out.trans hk)
  clear hk
  go_wp2_with (fail)
  have hr1 := run_arg _ a2 c2 (ys.take 20) _ ((HX2.out.take 20).keeps HK.out) HL202.out _ _ _ HR2.out
  rw [HL2.out] at hr1
  refine hr1.mono ?_
  clear hr1
  rintro r w1 ⟨rfl, hk⟩
  have HK := Lib.hid (HK.out.trans hk)
  clear hk
  go_wp2_with (fail)
  refine (in_eq 2 true (by decide) _).mono ?_
  rintro r w1 ⟨rfl, hk⟩
  have HK := Lib.hid (HK.out.trans hk)
  clear hk
  go_wp2_with (fail)
  refine (out_eq 2 true (by decide) _).mono ?_
  rintro r w1 ⟨rfl, hk⟩
  have HK := Lib.hid (HK.out.trans hk)
  clear hk
  go_wp2_with (fail)
  refine (isEnd_eq 2 false (by decide) _).mono ?_
  rintro r w1 ⟨rfl, hk⟩
  have HK := Lib.hid (HK.out.trans hk)
  clear hk
  go_wp2_with (fail)
  go_ret
  exact ⟨rfl, HK.out.below (Nat.le_refl _) (by simp)⟩

set_option maxHeartbeats 2000000 in
theorem walk_2_3 (st : Int) (a : Option Addr) (c : Nat) (xs : List Int) (a2 : Option Addr) (c2 : Nat) (ys : List Int) (w : World) (h : IntsArg w a c xs) (h2 : IntsArg w a2 c2 ys) (L : Nat) (hL : (xs.take 20).length = L) (L2 : Nat) (hL2 : (ys.take 20).length = L2) (y z : Int) (hr : runA st (xs.take 20) = (2, y, 0)) (hr2 : runA 2 (ys.take 20) = (3, z, 0)) :
    Calls Try.prog 8 #[.int .i64 st, .slice a xs.length c, .slice a2 ys.length c2] w fun e w' => e = .returned (.bool true) ∧ Below w.heap.size w w' := by
  have HL := Lib.hid hL
  have HL2 := Lib.hid hL2
  have HX := Lib.hid h
  have HX2 := Lib.hid h2
  have HR := Lib.hid hr
  have HR2 := Lib.hid hr2
  have hl20 : (xs.take 20).length ≤ 20 := by simp; omega
  have HL20 := Lib.hid hl20
  have hl202 : (ys.take 20).length ≤ 20 := by simp; omega
  have HL202 := Lib.hid hl202
  have HK := Lib.hid (Keeps.refl [] w)
  clear hl20 hl202 h h2 hL hL2 hr hr2
  go_enter Try.func8, Try.ntmps8
  go_wp2_with (fail)
  refine (shown_any _).mono ?_
  rintro r w1 ⟨rfl, hk⟩
  have HK := Lib.hid (HK.out.trans hk)
  clear hk
  go_wp2_with (fail)
  refine (few_any a c xs _ (HX.out.keeps HK.out)).mono ?_
  rintro r w1 ⟨rfl, rfl⟩
  rw [HL.out]
  go_wp2_with (fail)
  refine (few_any a2 c2 ys _ (HX2.out.keeps HK.out)).mono ?_
  rintro r w1 ⟨rfl, rfl⟩
  rw [HL2.out]
  go_wp2_with (fail)
  have hr1 := run_arg st a c (xs.take 20) _ ((HX.out.take 20).keeps HK.out) HL20.out _ _ _ HR.out
  rw [HL.out] at hr1
  refine hr1.mono ?_
  clear hr1
  rintro r w1 ⟨rfl, hk⟩
  have HK := Lib.hid (HK.out.trans hk)
  clear hk
  go_wp2_with (fail)
  have hr1 := run_arg _ a2 c2 (ys.take 20) _ ((HX2.out.take 20).keeps HK.out) HL202.out _ _ _ HR2.out
  rw [HL2.out] at hr1
  refine hr1.mono ?_
  clear hr1
  rintro r w1 ⟨rfl, hk⟩
  have HK := Lib.hid (HK.out.trans hk)
  clear hk
  go_wp2_with (fail)
  refine (in_eq 2 true (by decide) _).mono ?_
  rintro r w1 ⟨rfl, hk⟩
  have HK := Lib.hid (HK.out.trans hk)
  clear hk
  go_wp2_with (fail)
  refine (out_eq 2 true (by decide) _).mono ?_
  rintro r w1 ⟨rfl, hk⟩
  have HK := Lib.hid (HK.out.trans hk)
  clear hk
  go_wp2_with (fail)
  refine (isEnd_eq 2 false (by decide) _).mono ?_
  rintro r w1 ⟨rfl, hk⟩
  have HK := Lib.hid (HK.out.trans hk)
  clear hk
  go_wp2_with (fail)
  go_ret
  exact ⟨rfl, HK.out.below (Nat.le_refl _) (by simp)⟩

set_option maxHeartbeats 2000000 in
theorem walk_2_4 (st : Int) (a : Option Addr) (c : Nat) (xs : List Int) (a2 : Option Addr) (c2 : Nat) (ys : List Int) (w : World) (h : IntsArg w a c xs) (h2 : IntsArg w a2 c2 ys) (L : Nat) (hL : (xs.take 20).length = L) (L2 : Nat) (hL2 : (ys.take 20).length = L2) (y z : Int) (hr : runA st (xs.take 20) = (2, y, 0)) (hr2 : runA 2 (ys.take 20) = (4, z, 0)) :
    Calls Try.prog 8 #[.int .i64 st, .slice a xs.length c, .slice a2 ys.length c2] w fun e w' => e = .returned (.bool true) ∧ Below w.heap.size w w' := by
  have HL := Lib.hid hL
  have HL2 := Lib.hid hL2
  have HX := Lib.hid h
  have HX2 := Lib.hid h2
  have HR := Lib.hid hr
  have HR2 := Lib.hid hr2
  have hl20 : (xs.take 20).length ≤ 20 := by simp; omega
  have HL20 := Lib.hid hl20
  have hl202 : (ys.take 20).length ≤ 20 := by simp; omega
  have HL202 := Lib.hid hl202
  have HK := Lib.hid (Keeps.refl [] w)
  clear hl20 hl202 h h2 hL hL2 hr hr2
  go_enter Try.func8, Try.ntmps8
  go_wp2_with (fail)
  refine (shown_any _).mono ?_
  rintro r w1 ⟨rfl, hk⟩
  have HK := Lib.hid (HK.out.trans hk)
  clear hk
  go_wp2_with (fail)
  refine (few_any a c xs _ (HX.out.keeps HK.out)).mono ?_
  rintro r w1 ⟨rfl, rfl⟩
  rw [HL.out]
  go_wp2_with (fail)
  refine (few_any a2 c2 ys _ (HX2.out.keeps HK.out)).mono ?_
  rintro r w1 ⟨rfl, rfl⟩
  rw [HL2.out]
  go_wp2_with (fail)
  have hr1 := run_arg st a c (xs.take 20) _ ((HX.out.take 20).keeps HK.out) HL20.out _ _ _ HR.out
  rw [HL.out] at hr1
  refine hr1.mono ?_
  clear hr1
  rintro r w1 ⟨rfl, hk⟩
  have HK := Lib.hid (HK.out.trans hk)
  clear hk
  go_wp2_with (fail)
  have hr1 := run_arg _ a2 c2 (ys.take 20) _ ((HX2.out.take 20).keeps HK.out) HL202.out _ _ _ HR2.out
  rw [HL2.out] at hr1
  refine hr1.mono ?_
  clear hr1
  rintro r w1 ⟨rfl, hk⟩
  have HK := Lib.hid (HK.out.trans hk)
  clear hk
  go_wp2_with (fail)
  refine (in_eq 2 true (by decide) _).mono ?_
  rintro r w1 ⟨rfl, hk⟩
  have HK := Lib.hid (HK.out.trans hk)
  clear hk
  go_wp2_with (fail)
  refine (out_eq 2 true (by decide) _).mono ?_
  rintro r w1 ⟨rfl, hk⟩
  have HK := Lib.hid (HK.out.trans hk)
  clear hk
  go_wp2_with (fail)
  refine (isEnd_eq 2 false (by decide) _).mono ?_
  rintro r w1 ⟨rfl, hk⟩
  have HK := Lib.hid (HK.out.trans hk)
  clear hk
  go_wp2_with (fail)
  go_ret
  exact ⟨rfl, HK.out.below (Nat.le_refl _) (by simp)⟩

set_option maxHeartbeats 2000000 in
theorem walk_2_5 (st : Int) (a : Option Addr) (c : Nat) (xs : List Int) (a2 : Option Addr) (c2 : Nat) (ys : List Int) (w : World) (h : IntsArg w a c xs) (h2 : IntsArg w a2 c2 ys) (L : Nat) (hL : (xs.take 20).length = L) (L2 : Nat) (hL2 : (ys.take 20).length = L2) (y z : Int) (hr : runA st (xs.take 20) = (2, y, 0)) (hr2 : runA 2 (ys.take 20) = (5, z, 0)) :
    Calls Try.prog 8 #[.int .i64 st, .slice a xs.length c, .slice a2 ys.length c2] w fun e w' => e = .returned (.bool true) ∧ Below w.heap.size w w' := by
  have HL := Lib.hid hL
  have HL2 := Lib.hid hL2
  have HX := Lib.hid h
  have HX2 := Lib.hid h2
  have HR := Lib.hid hr
  have HR2 := Lib.hid hr2
  have hl20 : (xs.take 20).length ≤ 20 := by simp; omega
  have HL20 := Lib.hid hl20
  have hl202 : (ys.take 20).length ≤ 20 := by simp; omega
  have HL202 := Lib.hid hl202
  have HK := Lib.hid (Keeps.refl [] w)
  clear hl20 hl202 h h2 hL hL2 hr hr2
  go_enter Try.func8, Try.ntmps8
  go_wp2_with (fail)
  refine (shown_any _).mono ?_
  rintro r w1 ⟨rfl, hk⟩
  have HK := Lib.hid (HK.out.trans hk)
  clear hk
  go_wp2_with (fail)
  refine (few_any a c xs _ (HX.out.keeps HK.out)).mono ?_
  rintro r w1 ⟨rfl, rfl⟩
  rw [HL.out]
  go_wp2_with (fail)
  refine (few_any a2 c2 ys _ (HX2.out.keeps HK.out)).mono ?_
  rintro r w1 ⟨rfl, rfl⟩
  rw [HL2.out]
  go_wp2_with (fail)
  have hr1 := run_arg st a c (xs.take 20) _ ((HX.out.take 20).keeps HK.out) HL20.out _ _ _ HR.out
  rw [HL.out] at hr1
  refine hr1.mono ?_
  clear hr1
  rintro r w1 ⟨rfl, hk⟩
  have HK := Lib.hid (HK.out.trans hk)
  clear hk
  go_wp2_with (fail)
  have hr1 := run_arg _ a2 c2 (ys.take 20) _ ((HX2.out.take 20).keeps HK.out) HL202.out _ _ _ HR2.out
  rw [HL2.out] at hr1
  refine hr1.mono ?_
  clear hr1
  rintro r w1 ⟨rfl, hk⟩
  have HK := Lib.hid (HK.out.trans hk)
  clear hk
  go_wp2_with (fail)
  refine (in_eq 2 true (by decide) _).mono ?_
  rintro r w1 ⟨rfl, hk⟩
  have HK := Lib.hid (HK.out.trans hk)
  clear hk
  go_wp2_with (fail)
  refine (out_eq 2 true (by decide) _).mono ?_
  rintro r w1 ⟨rfl, hk⟩
  have HK := Lib.hid (HK.out.trans hk)
  clear hk
  go_wp2_with (fail)
  refine (isEnd_eq 2 false (by decide) _).mono ?_
  rintro r w1 ⟨rfl, hk⟩
  have HK := Lib.hid (HK.out.trans hk)
  clear hk
  go_wp2_with (fail)
  go_ret
  exact ⟨rfl, HK.out.below (Nat.le_refl _) (by simp)⟩

set_option maxHeartbeats 2000000 in
theorem walk_2_6 (st : Int) (a : Option Addr) (c : Nat) (xs : List Int) (a2 : Option Addr) (c2 : Nat) (ys : List Int) (w : World) (h : IntsArg w a c xs) (h2 : IntsArg w a2 c2 ys) (L : Nat) (hL : (xs.take 20).length = L) (L2 : Nat) (hL2 : (ys.take 20).length = L2) (y z : Int) (hr : runA st (xs.take 20) = (2, y, 0)) (hr2 : runA 2 (ys.take 20) = (6, z, 0)) :
    Calls Try.prog 8 #[.int .i64 st, .slice a xs.length c, .slice a2 ys.length c2] w fun e w' => e = .returned (.bool true) ∧ Below w.heap.size w w' := by
  have HL := Lib.hid hL
  have HL2 := Lib.hid hL2
  have HX := Lib.hid h
  have HX2 := Lib.hid h2
  have HR := Lib.hid hr
  have HR2 := Lib.hid hr2
  have hl20 : (xs.take 20).length ≤ 20 := by simp; omega
  have HL20 := Lib.hid hl20
  have hl202 : (ys.take 20).length ≤ 20 := by simp; omega
  have HL202 := Lib.hid hl202
  have HK := Lib.hid (Keeps.refl [] w)
  clear hl20 hl202 h h2 hL hL2 hr hr2
  go_enter Try.func8, Try.ntmps8
  go_wp2_with (fail)
  refine (shown_any _).mono ?_
  rintro r w1 ⟨rfl, hk⟩
  have HK := Lib.hid (HK.out.trans hk)
  clear hk
  go_wp2_with (fail)
  refine (few_any a c xs _ (HX.out.keeps HK.out)).mono ?_
  rintro r w1 ⟨rfl, rfl⟩
  rw [HL.out]
  go_wp2_with (fail)
  refine (few_any a2 c2 ys _ (HX2.out.keeps HK.out)).mono ?_
  rintro r w1 ⟨rfl, rfl⟩
  rw [HL2.out]
  go_wp2_with (fail)
  have hr1 := run_arg st a c (xs.take 20) _ ((HX.out.take 20).keeps HK.out) HL20.out _ _ _ HR.out
  rw [HL.out] at hr1
  refine hr1.mono ?_
  clear hr1
  rintro r w1 ⟨rfl, hk⟩
  have HK := Lib.hid (HK.out.trans hk)
  clear hk
  go_wp2_with (fail)
  have hr1 := run_arg _ a2 c2 (ys.take 20) _ ((HX2.out.take 20).keeps HK.out) HL202.out _ _ _ HR2.out
  rw [HL2.out] at hr1
  refine hr1.mono ?_
  clear hr1
  rintro r w1 ⟨rfl, hk⟩
  have HK := Lib.hid (HK.out.trans hk)
  clear hk
  go_wp2_with (fail)
  refine (in_eq 2 true (by decide) _).mono ?_
  rintro r w1 ⟨rfl, hk⟩
  have HK := Lib.hid (HK.out.trans hk)
  clear hk
  go_wp2_with (fail)
  refine (out_eq 2 true (by decide) _).mono ?_
  rintro r w1 ⟨rfl, hk⟩
  have HK := Lib.hid (HK.out.trans hk)
  clear hk
  go_wp2_with (fail)
  refine (isEnd_eq 2 false (by decide) _).mono ?_
  rintro r w1 ⟨rfl, hk⟩
  have HK := Lib.hid (HK.out.trans hk)
  clear hk
  go_wp2_with (fail)
  go_ret
  exact ⟨rfl, HK.out.below (Nat.le_refl _) (by simp)⟩

set_option maxHeartbeats 2000000 in
theorem walk_3_3 (st : Int) (a : Option Addr) (c : Nat) (xs : List Int) (a2 : Option Addr) (c2 : Nat) (ys : List Int) (w : World) (h : IntsArg w a c xs) (h2 : IntsArg w a2 c2 ys) (L : Nat) (hL : (xs.take 20).length = L) (L2 : Nat) (hL2 : (ys.take 20).length = L2) (y z : Int) (hr : runA st (xs.take 20) = (3, y, 0)) (hr2 : runA 3 (ys.take 20) = (3, z, 0)) :
    Calls Try.prog 8 #[.int .i64 st, .slice a xs.length c, .slice a2 ys.length c2] w fun e w' => e = .returned (.bool true) ∧ Below w.heap.size w w' := by
  have HL := Lib.hid hL
  have HL2 := Lib.hid hL2
  have HX := Lib.hid h
  have HX2 := Lib.hid h2
  have HR := Lib.hid hr
  have HR2 := Lib.hid hr2
  have hl20 : (xs.take 20).length ≤ 20 := by simp; omega
  have HL20 := Lib.hid hl20
  have hl202 : (ys.take 20).length ≤ 20 := by simp; omega
  have HL202 := Lib.hid hl202
  have HK := Lib.hid (Keeps.refl [] w)
  clear hl20 hl202 h h2 hL hL2 hr hr2
  go_enter Try.func8, Try.ntmps8
  go_wp2_with (fail)
  refine (shown_any _).mono ?_
  rintro r w1 ⟨rfl, hk⟩
  have HK := Lib.hid (HK.out.trans hk)
  clear hk
  go_wp2_with (fail)
  refine (few_any a c xs _ (HX.out.keeps HK.out)).mono ?_
  rintro r w1 ⟨rfl, rfl⟩
  rw [HL.out]
  go_wp2_with (fail)
  refine (few_any a2 c2 ys _ (HX2.out.keeps HK.out)).mono ?_
  rintro r w1 ⟨rfl, rfl⟩
  rw [HL2.out]
  go_wp2_with (fail)
  have hr1 := run_arg st a c (xs.take 20) _ ((HX.out.take 20).keeps HK.out) HL20.out _ _ _ HR.out
  rw [HL.out] at hr1
  refine hr1.mono ?_
  clear hr1
  rintro r w1 ⟨rfl, hk⟩
  have HK := Lib.hid (HK.out.trans hk)
  clear hk
  go_wp2_with (fail)
  have hr1 := run_arg _ a2 c2 (ys.take 20) _ ((HX2.out.take 20).keeps HK.out) HL202.out _ _ _ HR2.out
  rw [HL2.out] at hr1
  refine hr1.mono ?_
  clear hr1
  rintro r w1 ⟨rfl, hk⟩
  have HK := Lib.hid (HK.out.trans hk)
  clear hk
  go_wp2_with (fail)
  refine (in_eq 3 false (by decide) _).mono ?_
  rintro r w1 ⟨rfl, hk⟩
  have HK := Lib.hid (HK.out.trans hk)
  clear hk
  go_wp2_with (fail)
  refine (in_eq 3 false (by decide) _).mono ?_
  rintro r w1 ⟨rfl, hk⟩
  have HK := Lib.hid (HK.out.trans hk)
  clear hk
  go_wp2_with (fail)
  refine (out_eq 3 true (by decide) _).mono ?_
  rintro r w1 ⟨rfl, hk⟩
  have HK := Lib.hid (HK.out.trans hk)
  clear hk
  go_wp2_with (fail)
  refine (isEnd_eq 3 false (by decide) _).mono ?_
  rintro r w1 ⟨rfl, hk⟩
  have HK := Lib.hid (HK.out.trans hk)
  clear hk
  go_wp2_with (fail)
  go_ret
  exact ⟨rfl, HK.out.below (Nat.le_refl _) (by simp)⟩

set_option maxHeartbeats 2000000 in
theorem walk_3_5 (st : Int) (a : Option Addr) (c : Nat) (xs : List Int) (a2 : Option Addr) (c2 : Nat) (ys : List Int) (w : World) (h : IntsArg w a c xs) (h2 : IntsArg w a2 c2 ys) (L : Nat) (hL : (xs.take 20).length = L) (L2 : Nat) (hL2 : (ys.take 20).length = L2) (y z : Int) (hr : runA st (xs.take 20) = (3, y, 0)) (hr2 : runA 3 (ys.take 20) = (5, z, 0)) :
    Calls Try.prog 8 #[.int .i64 st, .slice a xs.length c, .slice a2 ys.length c2] w fun e w' => e = .returned (.bool true) ∧ Below w.heap.size w w' := by
  have HL := Lib.hid hL
  have HL2 := Lib.hid hL2
  have HX := Lib.hid h
  have HX2 := Lib.hid h2
  have HR := Lib.hid hr
  have HR2 := Lib.hid hr2
  have hl20 : (xs.take 20).length ≤ 20 := by simp; omega
  have HL20 := Lib.hid hl20
  have hl202 : (ys.take 20).length ≤ 20 := by simp; omega
  have HL202 := Lib.hid hl202
  have HK := Lib.hid (Keeps.refl [] w)
  clear hl20 hl202 h h2 hL hL2 hr hr2
  go_enter Try.func8, Try.ntmps8
  go_wp2_with (fail)
  refine (shown_any _).mono ?_
  rintro r w1 ⟨rfl, hk⟩
  have HK := Lib.hid (HK.out.trans hk)
  clear hk
  go_wp2_with (fail)
  refine (few_any a c xs _ (HX.out.keeps HK.out)).mono ?_
  rintro r w1 ⟨rfl, rfl⟩
  rw [HL.out]
  go_wp2_with (fail)
  refine (few_any a2 c2 ys _ (HX2.out.keeps HK.out)).mono ?_
  rintro r w1 ⟨rfl, rfl⟩
  rw [HL2.out]
  go_wp2_with (fail)
  have hr1 := run_arg st a c (xs.take 20) _ ((HX.out.take 20).keeps HK.out) HL20.out _ _ _ HR.out
  rw [HL.out] at hr1
  refine hr1.mono ?_
  clear hr1
  rintro r w1 ⟨rfl, hk⟩
  have HK := Lib.hid (HK.out.trans hk)
  clear hk
  go_wp2_with (fail)
  have hr1 := run_arg _ a2 c2 (ys.take 20) _ ((HX2.out.take 20).keeps HK.out) HL202.out _ _ _ HR2.out
  rw [HL2.out] at hr1
  refine hr1.mono ?_
  clear hr1
  rintro r w1 ⟨rfl, hk⟩
  have HK := Lib.hid (HK.out.trans hk)
  clear hk
  go_wp2_with (fail)
  refine (in_eq 3 false (by decide) _).mono ?_
  rintro r w1 ⟨rfl, hk⟩
  have HK := Lib.hid (HK.out.trans hk)
  clear hk
  go_wp2_with (fail)
  refine (in_eq 5 false (by decide) _).mono ?_
  rintro r w1 ⟨rfl, hk⟩
  have HK := Lib.hid (HK.out.trans hk)
  clear hk
  go_wp2_with (fail)
  refine (out_eq 3 true (by decide) _).mono ?_
  rintro r w1 ⟨rfl, hk⟩
  have HK := Lib.hid (HK.out.trans hk)
  clear hk
  go_wp2_with (fail)
  refine (isEnd_eq 3 false (by decide) _).mono ?_
  rintro r w1 ⟨rfl, hk⟩
  have HK := Lib.hid (HK.out.trans hk)
  clear hk
  go_wp2_with (fail)
  go_ret
  exact ⟨rfl, HK.out.below (Nat.le_refl _) (by simp)⟩

set_option maxHeartbeats 2000000 in
theorem walk_3_6 (st : Int) (a : Option Addr) (c : Nat) (xs : List Int) (a2 : Option Addr) (c2 : Nat) (ys : List Int) (w : World) (h : IntsArg w a c xs) (h2 : IntsArg w a2 c2 ys) (L : Nat) (hL : (xs.take 20).length = L) (L2 : Nat) (hL2 : (ys.take 20).length = L2) (y z : Int) (hr : runA st (xs.take 20) = (3, y, 0)) (hr2 : runA 3 (ys.take 20) = (6, z, 0)) :
    Calls Try.prog 8 #[.int .i64 st, .slice a xs.length c, .slice a2 ys.length c2] w fun e w' => e = .returned (.bool true) ∧ Below w.heap.size w w' := by
  have HL := Lib.hid hL
  have HL2 := Lib.hid hL2
  have HX := Lib.hid h
  have HX2 := Lib.hid h2
  have HR := Lib.hid hr
  have HR2 := Lib.hid hr2
  have hl20 : (xs.take 20).length ≤ 20 := by simp; omega
  have HL20 := Lib.hid hl20
  have hl202 : (ys.take 20).length ≤ 20 := by simp; omega
  have HL202 := Lib.hid hl202
  have HK := Lib.hid (Keeps.refl [] w)
  clear hl20 hl202 h h2 hL hL2 hr hr2
  go_enter Try.func8, Try.ntmps8
  go_wp2_with (fail)
  refine (shown_any _).mono ?_
  rintro r w1 ⟨rfl, hk⟩
  have HK := Lib.hid (HK.out.trans hk)
  clear hk
  go_wp2_with (fail)
  refine (few_any a c xs _ (HX.out.keeps HK.out)).mono ?_
  rintro r w1 ⟨rfl, rfl⟩
  rw [HL.out]
  go_wp2_with (fail)
  refine (few_any a2 c2 ys _ (HX2.out.keeps HK.out)).mono ?_
  rintro r w1 ⟨rfl, rfl⟩
  rw [HL2.out]
  go_wp2_with (fail)
  have hr1 := run_arg st a c (xs.take 20) _ ((HX.out.take 20).keeps HK.out) HL20.out _ _ _ HR.out
  rw [HL.out] at hr1
  refine hr1.mono ?_
  clear hr1
  rintro r w1 ⟨rfl, hk⟩
  have HK := Lib.hid (HK.out.trans hk)
  clear hk
  go_wp2_with (fail)
  have hr1 := run_arg _ a2 c2 (ys.take 20) _ ((HX2.out.take 20).keeps HK.out) HL202.out _ _ _ HR2.out
  rw [HL2.out] at hr1
  refine hr1.mono ?_
  clear hr1
  rintro r w1 ⟨rfl, hk⟩
  have HK := Lib.hid (HK.out.trans hk)
  clear hk
  go_wp2_with (fail)
  refine (in_eq 3 false (by decide) _).mono ?_
  rintro r w1 ⟨rfl, hk⟩
  have HK := Lib.hid (HK.out.trans hk)
  clear hk
  go_wp2_with (fail)
  refine (in_eq 6 false (by decide) _).mono ?_
  rintro r w1 ⟨rfl, hk⟩
  have HK := Lib.hid (HK.out.trans hk)
  clear hk
  go_wp2_with (fail)
  refine (out_eq 3 true (by decide) _).mono ?_
  rintro r w1 ⟨rfl, hk⟩
  have HK := Lib.hid (HK.out.trans hk)
  clear hk
  go_wp2_with (fail)
  refine (isEnd_eq 3 false (by decide) _).mono ?_
  rintro r w1 ⟨rfl, hk⟩
  have HK := Lib.hid (HK.out.trans hk)
  clear hk
  go_wp2_with (fail)
  go_ret
  exact ⟨rfl, HK.out.below (Nat.le_refl _) (by simp)⟩

set_option maxHeartbeats 2000000 in
theorem walk_4_4 (st : Int) (a : Option Addr) (c : Nat) (xs : List Int) (a2 : Option Addr) (c2 : Nat) (ys : List Int) (w : World) (h : IntsArg w a c xs) (h2 : IntsArg w a2 c2 ys) (L : Nat) (hL : (xs.take 20).length = L) (L2 : Nat) (hL2 : (ys.take 20).length = L2) (y z : Int) (hr : runA st (xs.take 20) = (4, y, 0)) (hr2 : runA 4 (ys.take 20) = (4, z, 0)) :
    Calls Try.prog 8 #[.int .i64 st, .slice a xs.length c, .slice a2 ys.length c2] w fun e w' => e = .returned (.bool true) ∧ Below w.heap.size w w' := by
  have HL := Lib.hid hL
  have HL2 := Lib.hid hL2
  have HX := Lib.hid h
  have HX2 := Lib.hid h2
  have HR := Lib.hid hr
  have HR2 := Lib.hid hr2
  have hl20 : (xs.take 20).length ≤ 20 := by simp; omega
  have HL20 := Lib.hid hl20
  have hl202 : (ys.take 20).length ≤ 20 := by simp; omega
  have HL202 := Lib.hid hl202
  have HK := Lib.hid (Keeps.refl [] w)
  clear hl20 hl202 h h2 hL hL2 hr hr2
  go_enter Try.func8, Try.ntmps8
  go_wp2_with (fail)
  refine (shown_any _).mono ?_
  rintro r w1 ⟨rfl, hk⟩
  have HK := Lib.hid (HK.out.trans hk)
  clear hk
  go_wp2_with (fail)
  refine (few_any a c xs _ (HX.out.keeps HK.out)).mono ?_
  rintro r w1 ⟨rfl, rfl⟩
  rw [HL.out]
  go_wp2_with (fail)
  refine (few_any a2 c2 ys _ (HX2.out.keeps HK.out)).mono ?_
  rintro r w1 ⟨rfl, rfl⟩
  rw [HL2.out]
  go_wp2_with (fail)
  have hr1 := run_arg st a c (xs.take 20) _ ((HX.out.take 20).keeps HK.out) HL20.out _ _ _ HR.out
  rw [HL.out] at hr1
  refine hr1.mono ?_
  clear hr1
  rintro r w1 ⟨rfl, hk⟩
  have HK := Lib.hid (HK.out.trans hk)
  clear hk
  go_wp2_with (fail)
  have hr1 := run_arg _ a2 c2 (ys.take 20) _ ((HX2.out.take 20).keeps HK.out) HL202.out _ _ _ HR2.out
  rw [HL2.out] at hr1
  refine hr1.mono ?_
  clear hr1
  rintro r w1 ⟨rfl, hk⟩
  have HK := Lib.hid (HK.out.trans hk)
  clear hk
  go_wp2_with (fail)
  refine (in_eq 4 true (by decide) _).mono ?_
  rintro r w1 ⟨rfl, hk⟩
  have HK := Lib.hid (HK.out.trans hk)
  clear hk
  go_wp2_with (fail)
  refine (out_eq 4 false (by decide) _).mono ?_
  rintro r w1 ⟨rfl, hk⟩
  have HK := Lib.hid (HK.out.trans hk)
  clear hk
  go_wp2_with (fail)
  refine (out_eq 4 false (by decide) _).mono ?_
  rintro r w1 ⟨rfl, hk⟩
  have HK := Lib.hid (HK.out.trans hk)
  clear hk
  go_wp2_with (fail)
  refine (isEnd_eq 4 false (by decide) _).mono ?_
  rintro r w1 ⟨rfl, hk⟩
  have HK := Lib.hid (HK.out.trans hk)
  clear hk
  go_wp2_with (fail)
  go_ret
  exact ⟨rfl, HK.out.below (Nat.le_refl _) (by simp)⟩

set_option maxHeartbeats 2000000 in
theorem walk_4_5 (st : Int) (a : Option Addr) (c : Nat) (xs : List Int) (a2 : Option Addr) (c2 : Nat) (ys : List Int) (w : World) (h : IntsArg w a c xs) (h2 : IntsArg w a2 c2 ys) (L : Nat) (hL : (xs.take 20).length = L) (L2 : Nat) (hL2 : (ys.take 20).length = L2) (y z : Int) (hr : runA st (xs.take 20) = (4, y, 0)) (hr2 : runA 4 (ys.take 20) = (5, z, 0)) :
    Calls Try.prog 8 #[.int .i64 st, .slice a xs.length c, .slice a2 ys.length c2] w fun e w' => e = .returned (.bool true) ∧ Below w.heap.size w w' := by
  have HL := Lib.hid hL
  have HL2 := Lib.hid hL2
  have HX := Lib.hid h
  have HX2 := Lib.hid h2
  have HR := Lib.hid hr
  have HR2 := Lib.hid hr2
  have hl20 : (xs.take 20).length ≤ 20 := by simp; omega
  have HL20 := Lib.hid hl20
  have hl202 : (ys.take 20).length ≤ 20 := by simp; omega
  have HL202 := Lib.hid hl202
  have HK := Lib.hid (Keeps.refl [] w)
  clear hl20 hl202 h h2 hL hL2 hr hr2
  go_enter Try.func8, Try.ntmps8
  go_wp2_with (fail)
  refine (shown_any _).mono ?_
  rintro r w1 ⟨rfl, hk⟩
  have HK := Lib.hid (HK.out.trans hk)
  clear hk
  go_wp2_with (fail)
  refine (few_any a c xs _ (HX.out.keeps HK.out)).mono ?_
  rintro r w1 ⟨rfl, rfl⟩
  rw [HL.out]
  go_wp2_with (fail)
  refine (few_any a2 c2 ys _ (HX2.out.keeps HK.out)).mono ?_
  rintro r w1 ⟨rfl, rfl⟩
  rw [HL2.out]
  go_wp2_with (fail)
  have hr1 := run_arg st a c (xs.take 20) _ ((HX.out.take 20).keeps HK.out) HL20.out _ _ _ HR.out
  rw [HL.out] at hr1
  refine hr1.mono ?_
  clear hr1
  rintro r w1 ⟨rfl, hk⟩
  have HK := Lib.hid (HK.out.trans hk)
  clear hk
  go_wp2_with (fail)
  have hr1 := run_arg _ a2 c2 (ys.take 20) _ ((HX2.out.take 20).keeps HK.out) HL202.out _ _ _ HR2.out
  rw [HL2.out] at hr1
  refine hr1.mono ?_
  clear hr1
  rintro r w1 ⟨rfl, hk⟩
  have HK := Lib.hid (HK.out.trans hk)
  clear hk
  go_wp2_with (fail)
  refine (in_eq 4 true (by decide) _).mono ?_
  rintro r w1 ⟨rfl, hk⟩
  have HK := Lib.hid (HK.out.trans hk)
  clear hk
  go_wp2_with (fail)
  refine (out_eq 4 false (by decide) _).mono ?_
  rintro r w1 ⟨rfl, hk⟩
  have HK := Lib.hid (HK.out.trans hk)
  clear hk
  go_wp2_with (fail)
  refine (out_eq 5 false (by decide) _).mono ?_
  rintro r w1 ⟨rfl, hk⟩
  have HK := Lib.hid (HK.out.trans hk)
  clear hk
  go_wp2_with (fail)
  refine (isEnd_eq 4 false (by decide) _).mono ?_
  rintro r w1 ⟨rfl, hk⟩
  have HK := Lib.hid (HK.out.trans hk)
  clear hk
  go_wp2_with (fail)
  go_ret
  exact ⟨rfl, HK.out.below (Nat.le_refl _) (by simp)⟩

set_option maxHeartbeats 2000000 in
theorem walk_4_6 (st : Int) (a : Option Addr) (c : Nat) (xs : List Int) (a2 : Option Addr) (c2 : Nat) (ys : List Int) (w : World) (h : IntsArg w a c xs) (h2 : IntsArg w a2 c2 ys) (L : Nat) (hL : (xs.take 20).length = L) (L2 : Nat) (hL2 : (ys.take 20).length = L2) (y z : Int) (hr : runA st (xs.take 20) = (4, y, 0)) (hr2 : runA 4 (ys.take 20) = (6, z, 0)) :
    Calls Try.prog 8 #[.int .i64 st, .slice a xs.length c, .slice a2 ys.length c2] w fun e w' => e = .returned (.bool true) ∧ Below w.heap.size w w' := by
  have HL := Lib.hid hL
  have HL2 := Lib.hid hL2
  have HX := Lib.hid h
  have HX2 := Lib.hid h2
  have HR := Lib.hid hr
  have HR2 := Lib.hid hr2
  have hl20 : (xs.take 20).length ≤ 20 := by simp; omega
  have HL20 := Lib.hid hl20
  have hl202 : (ys.take 20).length ≤ 20 := by simp; omega
  have HL202 := Lib.hid hl202
  have HK := Lib.hid (Keeps.refl [] w)
  clear hl20 hl202 h h2 hL hL2 hr hr2
  go_enter Try.func8, Try.ntmps8
  go_wp2_with (fail)
  refine (shown_any _).mono ?_
  rintro r w1 ⟨rfl, hk⟩
  have HK := Lib.hid (HK.out.trans hk)
  clear hk
  go_wp2_with (fail)
  refine (few_any a c xs _ (HX.out.keeps HK.out)).mono ?_
  rintro r w1 ⟨rfl, rfl⟩
  rw [HL.out]
  go_wp2_with (fail)
  refine (few_any a2 c2 ys _ (HX2.out.keeps HK.out)).mono ?_
  rintro r w1 ⟨rfl, rfl⟩
  rw [HL2.out]
  go_wp2_with (fail)
  have hr1 := run_arg st a c (xs.take 20) _ ((HX.out.take 20).keeps HK.out) HL20.out _ _ _ HR.out
  rw [HL.out] at hr1
  refine hr1.mono ?_
  clear hr1
  rintro r w1 ⟨rfl, hk⟩
  have HK := Lib.hid (HK.out.trans hk)
  clear hk
  go_wp2_with (fail)
  have hr1 := run_arg _ a2 c2 (ys.take 20) _ ((HX2.out.take 20).keeps HK.out) HL202.out _ _ _ HR2.out
  rw [HL2.out] at hr1
  refine hr1.mono ?_
  clear hr1
  rintro r w1 ⟨rfl, hk⟩
  have HK := Lib.hid (HK.out.trans hk)
  clear hk
  go_wp2_with (fail)
  refine (in_eq 4 true (by decide) _).mono ?_
  rintro r w1 ⟨rfl, hk⟩
  have HK := Lib.hid (HK.out.trans hk)
  clear hk
  go_wp2_with (fail)
  refine (out_eq 4 false (by decide) _).mono ?_
  rintro r w1 ⟨rfl, hk⟩
  have HK := Lib.hid (HK.out.trans hk)
  clear hk
  go_wp2_with (fail)
  refine (out_eq 6 false (by decide) _).mono ?_
  rintro r w1 ⟨rfl, hk⟩
  have HK := Lib.hid (HK.out.trans hk)
  clear hk
  go_wp2_with (fail)
  refine (isEnd_eq 4 false (by decide) _).mono ?_
  rintro r w1 ⟨rfl, hk⟩
  have HK := Lib.hid (HK.out.trans hk)
  clear hk
  go_wp2_with (fail)
  go_ret
  exact ⟨rfl, HK.out.below (Nat.le_refl _) (by simp)⟩

set_option maxHeartbeats 2000000 in
theorem walk_5_5 (st : Int) (a : Option Addr) (c : Nat) (xs : List Int) (a2 : Option Addr) (c2 : Nat) (ys : List Int) (w : World) (h : IntsArg w a c xs) (h2 : IntsArg w a2 c2 ys) (L : Nat) (hL : (xs.take 20).length = L) (L2 : Nat) (hL2 : (ys.take 20).length = L2) (y z : Int) (hr : runA st (xs.take 20) = (5, y, 0)) (hr2 : runA 5 (ys.take 20) = (5, z, 0)) :
    Calls Try.prog 8 #[.int .i64 st, .slice a xs.length c, .slice a2 ys.length c2] w fun e w' => e = .returned (.bool true) ∧ Below w.heap.size w w' := by
  have HL := Lib.hid hL
  have HL2 := Lib.hid hL2
  have HX := Lib.hid h
  have HX2 := Lib.hid h2
  have HR := Lib.hid hr
  have HR2 := Lib.hid hr2
  have hl20 : (xs.take 20).length ≤ 20 := by simp; omega
  have HL20 := Lib.hid hl20
  have hl202 : (ys.take 20).length ≤ 20 := by simp; omega
  have HL202 := Lib.hid hl202
  have HK := Lib.hid (Keeps.refl [] w)
  clear hl20 hl202 h h2 hL hL2 hr hr2
  go_enter Try.func8, Try.ntmps8
  go_wp2_with (fail)
  refine (shown_any _).mono ?_
  rintro r w1 ⟨rfl, hk⟩
  have HK := Lib.hid (HK.out.trans hk)
  clear hk
  go_wp2_with (fail)
  refine (few_any a c xs _ (HX.out.keeps HK.out)).mono ?_
  rintro r w1 ⟨rfl, rfl⟩
  rw [HL.out]
  go_wp2_with (fail)
  refine (few_any a2 c2 ys _ (HX2.out.keeps HK.out)).mono ?_
  rintro r w1 ⟨rfl, rfl⟩
  rw [HL2.out]
  go_wp2_with (fail)
  have hr1 := run_arg st a c (xs.take 20) _ ((HX.out.take 20).keeps HK.out) HL20.out _ _ _ HR.out
  rw [HL.out] at hr1
  refine hr1.mono ?_
  clear hr1
  rintro r w1 ⟨rfl, hk⟩
  have HK := Lib.hid (HK.out.trans hk)
  clear hk
  go_wp2_with (fail)
  have hr1 := run_arg _ a2 c2 (ys.take 20) _ ((HX2.out.take 20).keeps HK.out) HL202.out _ _ _ HR2.out
  rw [HL2.out] at hr1
  refine hr1.mono ?_
  clear hr1
  rintro r w1 ⟨rfl, hk⟩
  have HK := Lib.hid (HK.out.trans hk)
  clear hk
  go_wp2_with (fail)
  refine (in_eq 5 false (by decide) _).mono ?_
  rintro r w1 ⟨rfl, hk⟩
  have HK := Lib.hid (HK.out.trans hk)
  clear hk
  go_wp2_with (fail)
  refine (in_eq 5 false (by decide) _).mono ?_
  rintro r w1 ⟨rfl, hk⟩
  have HK := Lib.hid (HK.out.trans hk)
  clear hk
  go_wp2_with (fail)
  refine (out_eq 5 false (by decide) _).mono ?_
  rintro r w1 ⟨rfl, hk⟩
  have HK := Lib.hid (HK.out.trans hk)
  clear hk
  go_wp2_with (fail)
  refine (out_eq 5 false (by decide) _).mono ?_
  rintro r w1 ⟨rfl, hk⟩
  have HK := Lib.hid (HK.out.trans hk)
  clear hk
  go_wp2_with (fail)
  refine (isEnd_eq 5 true (by decide) _).mono ?_
  rintro r w1 ⟨rfl, hk⟩
  have HK := Lib.hid (HK.out.trans hk)
  clear hk
  go_wp2_with (fail)
  refine (in_eq 5 false (by decide) _).mono ?_
  rintro r w1 ⟨rfl, hk⟩
  have HK := Lib.hid (HK.out.trans hk)
  clear hk
  go_wp2_with (fail)
  refine (out_eq 5 false (by decide) _).mono ?_
  rintro r w1 ⟨rfl, hk⟩
  have HK := Lib.hid (HK.out.trans hk)
  clear hk
  go_wp2_with (fail)
  go_ret
  exact ⟨rfl, HK.out.below (Nat.le_refl _) (by simp)⟩

set_option maxHeartbeats 2000000 in
theorem walk_6_6 (st : Int) (a : Option Addr) (c : Nat) (xs : List Int) (a2 : Option Addr) (c2 : Nat) (ys : List Int) (w : World) (h : IntsArg w a c xs) (h2 : IntsArg w a2 c2 ys) (L : Nat) (hL : (xs.take 20).length = L) (L2 : Nat) (hL2 : (ys.take 20).length = L2) (y z : Int) (hr : runA st (xs.take 20) = (6, y, 0)) (hr2 : runA 6 (ys.take 20) = (6, z, 0)) :
    Calls Try.prog 8 #[.int .i64 st, .slice a xs.length c, .slice a2 ys.length c2] w fun e w' => e = .returned (.bool true) ∧ Below w.heap.size w w' := by
  have HL := Lib.hid hL
  have HL2 := Lib.hid hL2
  have HX := Lib.hid h
  have HX2 := Lib.hid h2
  have HR := Lib.hid hr
  have HR2 := Lib.hid hr2
  have hl20 : (xs.take 20).length ≤ 20 := by simp; omega
  have HL20 := Lib.hid hl20
  have hl202 : (ys.take 20).length ≤ 20 := by simp; omega
  have HL202 := Lib.hid hl202
  have HK := Lib.hid (Keeps.refl [] w)
  clear hl20 hl202 h h2 hL hL2 hr hr2
  go_enter Try.func8, Try.ntmps8
  go_wp2_with (fail)
  refine (shown_any _).mono ?_
  rintro r w1 ⟨rfl, hk⟩
  have HK := Lib.hid (HK.out.trans hk)
  clear hk
  go_wp2_with (fail)
  refine (few_any a c xs _ (HX.out.keeps HK.out)).mono ?_
  rintro r w1 ⟨rfl, rfl⟩
  rw [HL.out]
  go_wp2_with (fail)
  refine (few_any a2 c2 ys _ (HX2.out.keeps HK.out)).mono ?_
  rintro r w1 ⟨rfl, rfl⟩
  rw [HL2.out]
  go_wp2_with (fail)
  have hr1 := run_arg st a c (xs.take 20) _ ((HX.out.take 20).keeps HK.out) HL20.out _ _ _ HR.out
  rw [HL.out] at hr1
  refine hr1.mono ?_
  clear hr1
  rintro r w1 ⟨rfl, hk⟩
  have HK := Lib.hid (HK.out.trans hk)
  clear hk
  go_wp2_with (fail)
  have hr1 := run_arg _ a2 c2 (ys.take 20) _ ((HX2.out.take 20).keeps HK.out) HL202.out _ _ _ HR2.out
  rw [HL2.out] at hr1
  refine hr1.mono ?_
  clear hr1
  rintro r w1 ⟨rfl, hk⟩
  have HK := Lib.hid (HK.out.trans hk)
  clear hk
  go_wp2_with (fail)
  refine (in_eq 6 false (by decide) _).mono ?_
  rintro r w1 ⟨rfl, hk⟩
  have HK := Lib.hid (HK.out.trans hk)
  clear hk
  go_wp2_with (fail)
  refine (in_eq 6 false (by decide) _).mono ?_
  rintro r w1 ⟨rfl, hk⟩
  have HK := Lib.hid (HK.out.trans hk)
  clear hk
  go_wp2_with (fail)
  refine (out_eq 6 false (by decide) _).mono ?_
  rintro r w1 ⟨rfl, hk⟩
  have HK := Lib.hid (HK.out.trans hk)
  clear hk
  go_wp2_with (fail)
  refine (out_eq 6 false (by decide) _).mono ?_
  rintro r w1 ⟨rfl, hk⟩
  have HK := Lib.hid (HK.out.trans hk)
  clear hk
  go_wp2_with (fail)
  refine (isEnd_eq 6 true (by decide) _).mono ?_
  rintro r w1 ⟨rfl, hk⟩
  have HK := Lib.hid (HK.out.trans hk)
  clear hk
  go_wp2_with (fail)
  refine (in_eq 6 false (by decide) _).mono ?_
  rintro r w1 ⟨rfl, hk⟩
  have HK := Lib.hid (HK.out.trans hk)
  clear hk
  go_wp2_with (fail)
  refine (out_eq 6 false (by decide) _).mono ?_
  rintro r w1 ⟨rfl, hk⟩
  have HK := Lib.hid (HK.out.trans hk)
  clear hk
  go_wp2_with (fail)
  go_ret
  exact ⟨rfl, HK.out.below (Nat.le_refl _) (by simp)⟩

theorem walk (st : Int) (a : Option Addr) (xs : List Int) (c : Nat) (a2 : Option Addr) (ys : List Int) (c2 : Nat) {W : World} (_ : (Lit.int IntKind.i64 st).wf = true) (h : IntsArg W a c xs) (h2 : IntsArg W a2 c2 ys) (w : World) (hw : w = W) :
    Calls Try.prog 8 #[.int .i64 st, .slice a xs.length c, .slice a2 ys.length c2] w fun e w' => e = .returned (.bool true) ∧ Below W.heap.size W w' := by
  subst hw
  have hA : ∀ (q : Nat) (l : List Int), q ≤ 6 → runA q l = (((runS q l).1 : Int), ((runS q l).2 : Int), 0) := fun q l hq => by
    unfold runA; rw [if_pos (by omega), Int.toNat_natCast]
  by_cases hs : 0 ≤ st ∧ st < 7
  · obtain ⟨n, rfl⟩ : ∃ n : Nat, st = n := ⟨st.toNat, by omega⟩
    have hr := hA n (xs.take 20) (by omega)
    obtain ⟨s, y, hsy⟩ : ∃ s y, runS n (xs.take 20) = (s, y) := ⟨_, _, rfl⟩
    have hs6 := (runS_le (xs.take 20) n (by omega)).1
    rw [hsy] at hr hs6
    dsimp only at hr hs6
    have hr2 := hA s (ys.take 20) hs6
    obtain ⟨t, z, htz⟩ : ∃ t z, runS s (ys.take 20) = (t, z) := ⟨_, _, rfl⟩
    have ht6 := (runS_le (ys.take 20) s hs6).1
    obtain ⟨m, hm, _⟩ := dist_run (ys.take 20) s hs6
    rw [htz] at hr2 ht6 hm
    dsimp only at hr2 ht6 hm
    clear hsy htz
    have hcs : s = 0 ∨ s = 1 ∨ s = 2 ∨ s = 3 ∨ s = 4 ∨ s = 5 ∨ s = 6 := by omega
    have hct : t = 0 ∨ t = 1 ∨ t = 2 ∨ t = 3 ∨ t = 4 ∨ t = 5 ∨ t = 6 := by omega
    rcases hcs with rfl | rfl | rfl | rfl | rfl | rfl | rfl
    all_goals rcases hct with rfl | rfl | rfl | rfl | rfl | rfl | rfl
    · exact walk_0_0 n a c xs a2 c2 ys w h h2 _ rfl _ rfl _ _ hr hr2
    · exact walk_0_1 n a c xs a2 c2 ys w h h2 _ rfl _ rfl _ _ hr hr2
    · exact walk_0_2 n a c xs a2 c2 ys w h h2 _ rfl _ rfl _ _ hr hr2
    · exact walk_0_3 n a c xs a2 c2 ys w h h2 _ rfl _ rfl _ _ hr hr2
    · exact walk_0_4 n a c xs a2 c2 ys w h h2 _ rfl _ rfl _ _ hr hr2
    · exact walk_0_5 n a c xs a2 c2 ys w h h2 _ rfl _ rfl _ _ hr hr2
    · exact walk_0_6 n a c xs a2 c2 ys w h h2 _ rfl _ rfl _ _ hr hr2
    · cases hm
    · exact walk_1_1 n a c xs a2 c2 ys w h h2 _ rfl _ rfl _ _ hr hr2
    · exact walk_1_2 n a c xs a2 c2 ys w h h2 _ rfl _ rfl _ _ hr hr2
    · exact walk_1_3 n a c xs a2 c2 ys w h h2 _ rfl _ rfl _ _ hr hr2
    · exact walk_1_4 n a c xs a2 c2 ys w h h2 _ rfl _ rfl _ _ hr hr2
    · exact walk_1_5 n a c xs a2 c2 ys w h h2 _ rfl _ rfl _ _ hr hr2
    · exact walk_1_6 n a c xs a2 c2 ys w h h2 _ rfl _ rfl _ _ hr hr2
    · cases hm
    · cases hm
    · exact walk_2_2 n a c xs a2 c2 ys w h h2 _ rfl _ rfl _ _ hr hr2
    · exact walk_2_3 n a c xs a2 c2 ys w h h2 _ rfl _ rfl _ _ hr hr2
    · exact walk_2_4 n a c xs a2 c2 ys w h h2 _ rfl _ rfl _ _ hr hr2
    · exact walk_2_5 n a c xs a2 c2 ys w h h2 _ rfl _ rfl _ _ hr hr2
    · exact walk_2_6 n a c xs a2 c2 ys w h h2 _ rfl _ rfl _ _ hr hr2
    · cases hm
    · cases hm
    · cases hm
    · exact walk_3_3 n a c xs a2 c2 ys w h h2 _ rfl _ rfl _ _ hr hr2
    · cases hm
    · exact walk_3_5 n a c xs a2 c2 ys w h h2 _ rfl _ rfl _ _ hr hr2
    · exact walk_3_6 n a c xs a2 c2 ys w h h2 _ rfl _ rfl _ _ hr hr2
    · cases hm
    · cases hm
    · cases hm
    · cases hm
    · exact walk_4_4 n a c xs a2 c2 ys w h h2 _ rfl _ rfl _ _ hr hr2
    · exact walk_4_5 n a c xs a2 c2 ys w h h2 _ rfl _ rfl _ _ hr hr2
    · exact walk_4_6 n a c xs a2 c2 ys w h h2 _ rfl _ rfl _ _ hr hr2
    · cases hm
    · cases hm
    · cases hm
    · cases hm
    · cases hm
    · exact walk_5_5 n a c xs a2 c2 ys w h h2 _ rfl _ rfl _ _ hr hr2
    · cases hm
    · cases hm
    · cases hm
    · cases hm
    · cases hm
    · cases hm
    · cases hm
    · exact walk_6_6 n a c xs a2 c2 ys w h h2 _ rfl _ rfl _ _ hr hr2
  · have hr : runA st (xs.take 20) = (0, 0, 2) := if_neg hs
    exact walk_bad st a c xs a2 c2 ys w h h2 _ rfl _ rfl _ _ _ hr (hA 0 _ (by omega))
theorem own : ownKnob Try.prog.godebug = none := by kernel_rfl

set_option maxRecDepth 100000 in
theorem lifted (os : Os) (started : os.Started) (H : Type) (enc : TypeId × Value → H) :
    ReturnsInHanded {} Try.checked os 8 .any (Rows.streamSidesSpec.pre6 enc Try.prog Try.f8 Rows.streamSidesRow.domain false) (Rows.streamSidesSpec.post enc Try.prog Try.f8 false true false false) := by
  refine returnsInHanded_of_change (C := Try.checked) own started (by kernel_rfl) Try.func8
    (ChangeSpec.witness6 (enc := enc) (C := Try.checked) false ⟨#[], #[.int .i64 0, .slice none 0 0, .slice none 0 0], []⟩ 8 (by kernel_rfl) (by kernel_rfl) (by kernel_rfl) (by kernel_rfl)) ?_
  intro W base args ds gs before hval0 hW hcnd _
  have hval : ∀ (j : Nat) t v, Try.f8.params[j]? = some t → args[j]? = some v → Value.okWide Try.prog W .any base t v := hval0
  have hW' := hW
  obtain ⟨p, q, hA0, hV, rfl, hfz, hnd⟩ := hW
  have hA : DataW.TrodAll enc Try.prog W 0 (fun _ => true) true Try.f8.params.toList args.toList ds p := hA0
  rw [Try.params8] at hA hval
  obtain ⟨v0, vs0, d0, ds0, p0, q0, hargs, rfl, rfl, h0, r0⟩ := trodAll_cons hA
  obtain ⟨v1, vs1, d1, ds1, p1, q1, rfl, rfl, rfl, h1, r1⟩ := trodAll_cons r0
  obtain ⟨v2, vs2, d2, ds2, p2, q2, rfl, rfl, rfl, h2, r2⟩ := trodAll_cons r1
  obtain ⟨rfl, rfl, rfl⟩ := trodAll_nil r2
  obtain rfl : args = #[v0, v1, v2] := by cases args; simp_all
  obtain ⟨rfl, rfl⟩ := trodVars_none hV
  obtain ⟨a0, rfl, rfl, rfl, w0⟩ := open_int Try.underlying3 (hval 0 3 v0 rfl rfl) h0
  obtain ⟨a1, xs1, c1, rfl, w1⟩ := open_nums (hval 1 22 v1 rfl rfl) h1
  obtain ⟨a2, xs2, c2, rfl, w2⟩ := open_nums (hval 2 22 v2 rfl rfl) h2
  refine (walk a0 a1 xs1 c1 a2 xs2 c2 w0 w1 w2 W rfl).mono fun e W' ⟨he, hb⟩ => ?_
  subst he
  exact ⟨_, rfl, law_post (by kernel_rfl) (by decide +kernel) rfl rfl Try.underlying4 hW' hb ⟨rfl, rfl, rfl⟩⟩

theorem over : Rows.streamSidesRow.holds Try.pinned (OpenSpec.ofChange Rows.streamSidesSpec) :=
  OpenClaim.holds_of_wide 8 Try.f8 rfl rfl rfl rfl rfl rfl rfl ⟨rfl, rfl, rfl, rfl, rfl⟩ rfl rfl rfl rfl rfl (by kernel_rfl) Try.func8 (by kernel_rfl)
    (of_decide_eq_true (by kernel_rfl)) (by unfold Func.isWrapper; first | (rw [if_pos (by decide +kernel)]; kernel_rfl) | (rw [if_neg (by decide +kernel)]; exact ⟨rfl, rfl⟩))
    (fun os started H enc _ => lifted os started H enc)

theorem proved : Rows.StreamSidesSaid := over

end streamSides
end Go.Proofs.Ytfgkfhchnnkonaa
