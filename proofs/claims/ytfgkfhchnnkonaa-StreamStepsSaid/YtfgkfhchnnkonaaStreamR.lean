/- The walks of the document's answer for the stream: Next, Run, In, Out, IsEnd. -/
import Derived.Test.YtfgkfhchnnkonaaStreamH
namespace Go.Proofs.Ytfgkfhchnnkonaa
open Go.RowKit
attribute [local go_sem ↓] Go.wp_at_zero Go.wp_at_succ

set_option maxHeartbeats 4000000 in
theorem rnext_lit (s : Nat) (hs : s ≤ 6) (e x y : Int) (h : nextA s e = (x, y)) (w : World) :
    Calls Try.prog 17 #[.int .i64 s, .int .i64 e] w fun r w' => r = .returned (.tuple #[.int .i64 x, .int .i64 y]) ∧ w = w' := by
  have hcs : s = 0 ∨ s = 1 ∨ s = 2 ∨ s = 3 ∨ s = 4 ∨ s = 5 ∨ s = 6 := by omega
  by_cases he : 1 ≤ e ∧ e ≤ 6
  · have hce : e = 1 ∨ e = 2 ∨ e = 3 ∨ e = 4 ∨ e = 5 ∨ e = 6 := by omega
    clear hs he
    rcases hcs with rfl | rfl | rfl | rfl | rfl | rfl | rfl
    all_goals
      rcases hce with rfl | rfl | rfl | rfl | rfl | rfl
      all_goals
        cases h
        go_enter Try.func17, Try.ntmps17
        go_wp2
        go_ret2
        exact ⟨rfl, rfl⟩
  · have e1 : (e == 1) = false := by simp; omega
    have e2 : (e == 2) = false := by simp; omega
    have e3 : (e == 3) = false := by simp; omega
    have e4 : (e == 4) = false := by simp; omega
    have e5 : (e == 5) = false := by simp; omega
    have e6 : (e == 6) = false := by simp; omega
    have hn : nxt s e = none := by
      cases hn : nxt s e with
      | none => rfl
      | some t => exact absurd (nxt_ev hn) he
    unfold nextA at h
    rw [if_pos (by omega), Int.toNat_natCast, hn] at h
    cases h
    clear hs he hn
    rcases hcs with rfl | rfl | rfl | rfl | rfl | rfl | rfl
    all_goals
      go_enter Try.func17, Try.ntmps17
      go_wp2
      go_ret2
      exact ⟨rfl, rfl⟩

theorem rnext_any (s e x y : Int) (h : nextA s e = (x, y)) (w : World) :
    Calls Try.prog 17 #[.int .i64 s, .int .i64 e] w fun r w' => r = .returned (.tuple #[.int .i64 x, .int .i64 y]) ∧ w = w' := by
  by_cases hs : 0 ≤ s ∧ s < 7
  · obtain ⟨n, rfl⟩ : ∃ n : Nat, s = n := ⟨s.toNat, by omega⟩
    exact rnext_lit n (by omega) e x y h w
  · unfold nextA at h
    rw [if_neg hs] at h
    cases h
    rcases (show s < 0 ∨ 6 < s by omega) with h1 | h1
    · clear hs
      go_enter Try.func17, Try.ntmps17
      go_wp2
      go_ret2
      exact ⟨rfl, rfl⟩
    · have h2 : ¬ s < 0 := by omega
      clear hs
      go_enter Try.func17, Try.ntmps17
      go_wp2
      go_ret2
      exact ⟨rfl, rfl⟩

set_option maxHeartbeats 1000000 in
theorem rrun_any (s : Nat) (hs : s ≤ 6) (xs : List Int) (a o c : Nat) (w : World) (h : IntsAt w a o xs) (hl : xs.length ≤ 1000000) (x y : Nat) (hxy : runS s xs = (x, y)) :
    Calls Try.prog 18 #[.int .i64 s, .slice (some ⟨a, o, none⟩) xs.length c] w fun r w' => r = .returned (.tuple #[.int .i64 x, .int .i64 y, .int .i64 0]) ∧ w = w' := by
  have HX := Lib.hid hxy
  have HA := Lib.hid h
  have h1 : ¬ (s : Int) < 0 := by omega
  have h2 : ¬ 6 < (s : Int) := by omega
  clear h hxy
  go_enter Try.func18, Try.ntmps18
  go_wp2_with (fail)
  go_loop [0, 7] (fun t i => ∃ (k t' : Nat), k ≤ xs.length ∧ t' ≤ 6 ∧ t = .int .i64 t' ∧ i = .int .i64 k ∧ Hid (runS s (xs.take k) = (t', k))) (fun _ i => xs.length - (intOf i).toNat)
  case atStart => exact ⟨0, s, by omega, hs, rfl, rfl, Lib.hid rfl⟩
  case round =>
    obtain ⟨k, t, hk, ht, rfl, rfl, hR⟩ := hrel
    by_cases hlt : k < xs.length
    · have hst := runS_step s xs k hlt (by rw [hR.out])
      rw [hR.out] at hst
      have HST := Lib.hid hst
      have hc := HA.out k hlt
      obtain ⟨e, he⟩ : ∃ e, xs[k] = e := ⟨_, rfl⟩
      rw [he] at hc
      have HE := Lib.hid he
      clear hst he
      cases hn : nxt t e with
      | none =>
        have hA : Hid (nextA t e = (0, 140)) := Lib.hid (by unfold nextA; rw [if_pos (by omega), Int.toNat_natCast, hn])
        have hfin := HST.out.2 (by rw [HE.out]; exact hn)
        rw [HX.out] at hfin
        obtain ⟨rfl, rfl⟩ : x = t ∧ y = k := by simpa using hfin
        clear hn hfin
        go_wp2_with (fail)
        refine (rnext_any _ _ _ _ hA.out _).mono ?_
        rintro r w1 ⟨rfl, rfl⟩
        go_wp2_with (fail)
        exact bodyPost_ret (v := .tuple #[.int .i64 x, .int .i64 y, .int .i64 0]) (by simp [results, Try.results18, go_sem]) rfl ⟨rfl, rfl⟩
      | some u =>
        have hA : Hid (nextA t e = ((u : Int), 0)) := Lib.hid (by unfold nextA; rw [if_pos (by omega), Int.toNat_natCast, hn])
        have hnx := HST.out.1 u (by rw [HE.out]; exact hn)
        have HN : Hid (runS s (xs.take (k + 1)) = (u, k + 1)) := Lib.hid (Prod.ext hnx.1 hnx.2)
        have hu := (nxt_lt hn).1
        clear hn hnx
        go_wp2_with (fail)
        refine (rnext_any _ _ _ _ hA.out _).mono ?_
        rintro r w1 ⟨rfl, rfl⟩
        go_wp2
        go_round
        case rel => exact ⟨k + 1, u, by omega, hu, rfl, by go_num, HN⟩
        case measure => simp [intOf]; omega
    · obtain rfl : k = xs.length := by omega
      have hfin := runS_all s xs (by rw [hR.out])
      rw [hR.out, HX.out] at hfin
      obtain ⟨rfl, rfl⟩ : x = t ∧ y = xs.length := by simpa using hfin
      clear hfin
      go_wp2_with (fail)
      exact bodyPost_ret (v := .tuple #[.int .i64 x, .int .i64 xs.length, .int .i64 0]) (by simp [results, Try.results18, go_sem]) rfl ⟨rfl, rfl⟩

set_option maxHeartbeats 1000000 in
theorem rrun_none (s : Nat) (hs : s ≤ 6) (a : Option Addr) (c : Nat) (w : World) :
    Calls Try.prog 18 #[.int .i64 s, .slice a 0 c] w fun r w' => r = .returned (.tuple #[.int .i64 s, .int .i64 0, .int .i64 0]) ∧ w = w' := by
  have h1 : ¬ (s : Int) < 0 := by omega
  have h2 : ¬ 6 < (s : Int) := by omega
  go_enter Try.func18, Try.ntmps18
  go_wp2_with (fail)
  go_loop [0, 7] (fun t i => t = .int .i64 s ∧ i = .int .i64 0) (fun _ _ => 0)
  case atStart => exact ⟨rfl, rfl⟩
  case round =>
    obtain ⟨rfl, rfl⟩ := hrel
    go_wp2_with (fail)
    exact bodyPost_ret (v := .tuple #[.int .i64 s, .int .i64 0, .int .i64 0]) (by simp [results, Try.results18, go_sem]) rfl ⟨rfl, rfl⟩

theorem rrun_arg (s : Int) (a : Option Addr) (c : Nat) (xs : List Int) (w : World) (h : IntsArg w a c xs) (hl : xs.length ≤ 20) (x y z : Int) (hxy : runA s xs = (x, y, z)) :
    Calls Try.prog 18 #[.int .i64 s, .slice a xs.length c] w fun r w' => r = .returned (.tuple #[.int .i64 x, .int .i64 y, .int .i64 z]) ∧ w = w' := by
  unfold runA at hxy
  by_cases hs : 0 ≤ s ∧ s < 7
  · rw [if_pos hs] at hxy
    obtain ⟨n, rfl⟩ : ∃ n : Nat, s = n := ⟨s.toNat, by omega⟩
    rw [Int.toNat_natCast] at hxy
    injection hxy with h1 h2
    injection h2 with h2 h3
    subst h1 h2 h3
    by_cases hx : xs = []
    · subst hx
      exact rrun_none n (by omega) a c w
    · obtain ⟨b, off, rfl, _, hat⟩ := h.at_ hx
      exact rrun_any n (by omega) xs b off c w hat (by omega) _ _ rfl
  · rw [if_neg hs] at hxy
    cases hxy
    clear h
    rcases (show s < 0 ∨ 6 < s by omega) with h1 | h1
    · clear hs
      go_enter Try.func18, Try.ntmps18
      go_wp2
      exact bodyPost_ret (v := .tuple #[.int .i64 0, .int .i64 0, .int .i64 2]) (by simp [results, Try.results18, go_sem]) rfl ⟨rfl, rfl⟩
    · have h2 : ¬ s < 0 := by omega
      clear hs
      go_enter Try.func18, Try.ntmps18
      go_wp2
      exact bodyPost_ret (v := .tuple #[.int .i64 0, .int .i64 0, .int .i64 2]) (by simp [results, Try.results18, go_sem]) rfl ⟨rfl, rfl⟩

theorem rin_any (s : Int) (b : Bool) (h : (decide (s = 2) || decide (s = 4)) = b) (w : World) : Calls Try.prog 20 #[.int .i64 s] w fun r w' => r = .returned (.bool b) ∧ w = w' := by
  subst h
  by_cases h1 : s = 2
  · subst h1
    go_enter Try.func20, Try.ntmps20
    go_wp2
    go_ret
    exact ⟨rfl, rfl⟩
  · by_cases h2 : s = 4
    · subst h2
      clear h1
      go_enter Try.func20, Try.ntmps20
      go_wp2
      go_ret
      exact ⟨rfl, rfl⟩
    · have e : (decide (s = 2) || decide (s = 4)) = false := by simp [h1, h2]
      rw [e]
      have h3 : (s == 2) = false := by simpa using h1
      have h4 : (s == 4) = false := by simpa using h2
      clear h1 h2 e
      go_enter Try.func20, Try.ntmps20
      go_wp2
      go_ret
      exact ⟨rfl, rfl⟩
theorem rout_any (s : Int) (b : Bool) (h : (decide (s = 2) || decide (s = 3)) = b) (w : World) : Calls Try.prog 21 #[.int .i64 s] w fun r w' => r = .returned (.bool b) ∧ w = w' := by
  subst h
  by_cases h1 : s = 2
  · subst h1
    go_enter Try.func21, Try.ntmps21
    go_wp2
    go_ret
    exact ⟨rfl, rfl⟩
  · by_cases h2 : s = 3
    · subst h2
      clear h1
      go_enter Try.func21, Try.ntmps21
      go_wp2
      go_ret
      exact ⟨rfl, rfl⟩
    · have e : (decide (s = 2) || decide (s = 3)) = false := by simp [h1, h2]
      rw [e]
      have h3 : (s == 2) = false := by simpa using h1
      have h4 : (s == 3) = false := by simpa using h2
      clear h1 h2 e
      go_enter Try.func21, Try.ntmps21
      go_wp2
      go_ret
      exact ⟨rfl, rfl⟩
theorem risEnd_any (s : Int) (b : Bool) (h : (decide (s = 5) || decide (s = 6)) = b) (w : World) : Calls Try.prog 23 #[.int .i64 s] w fun r w' => r = .returned (.bool b) ∧ w = w' := by
  subst h
  by_cases h1 : s = 5
  · subst h1
    go_enter Try.func23, Try.ntmps23
    go_wp2
    go_ret
    exact ⟨rfl, rfl⟩
  · by_cases h2 : s = 6
    · subst h2
      clear h1
      go_enter Try.func23, Try.ntmps23
      go_wp2
      go_ret
      exact ⟨rfl, rfl⟩
    · have e : (decide (s = 5) || decide (s = 6)) = false := by simp [h1, h2]
      rw [e]
      have h3 : (s == 5) = false := by simpa using h1
      have h4 : (s == 6) = false := by simpa using h2
      clear h1 h2 e
      go_enter Try.func23, Try.ntmps23
      go_wp2
      go_ret
      exact ⟨rfl, rfl⟩
end Go.Proofs.Ytfgkfhchnnkonaa
