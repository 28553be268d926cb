/- The walks of the stream's Next, Run, In, Out, IsEnd. -/
import Derived.Test.YtfgkfhchnnkonaaStreamB
namespace Go.Proofs.Ytfgkfhchnnkonaa
open Go.RowKit
attribute [local go_sem ↓] Go.wp_at_zero Go.wp_at_succ

/-- Next's answer. -/
def nextA (s e : Int) : Int × Int := if 0 ≤ s ∧ s < 7 then (match nxt s.toNat e with | some t => ((t : Int), 0) | none => (0, 140)) else (0, 2)

set_option maxHeartbeats 1000000 in
theorem next_any (s e : Int) (w : World) :
    Calls Try.prog 14 #[.int .i64 s, .int .i64 e] w fun r w' => r = .returned (.tuple #[.int .i64 (nextA s e).1, .int .i64 (nextA s e).2]) ∧ Keeps [] w w' := by
  by_cases hb : 0 ≤ s ∧ s < 7
  · obtain ⟨n, rfl⟩ : ∃ n : Nat, s = n := ⟨s.toNat, by omega⟩
    have hn : n ≤ 6 := by omega
    have hd : decide (0 ≤ (n : Int) ∧ (n : Int) < 7) = true := by simpa using hb
    have HD := Lib.hid hd
    have HA : Hid (nextA n e = if nxtB n e then ((nxtS n e : Int), (0 : Int)) else (0, 140)) := by
      show nextA n e = _
      unfold nextA nxtB nxtS
      rw [if_pos hb, Int.toNat_natCast]
      cases nxt n e <;> rfl
    clear hd hb
    go_enter Try.func14, Try.ntmps14
    go_wp2_with (fail)
    refine (isState_any _ _ HD.out _).mono ?_
    rintro r w1 ⟨rfl, rfl⟩
    go_wp2_with (fail)
    refine (step_any _ n e hn _ (Blk.new w 40 #[.int .i64 n])).mono ?_
    rintro r w1 ⟨rfl, hw, hk⟩
    have c0 := hw.c0
    have HK := Lib.hid (((Keeps.refl [] w).alloc (.cells #[.int .i64 n] 40)).trans' hk (by simp))
    clear hw hk
    have hB : nxtB n e = true ∨ nxtB n e = false := by cases nxtB n e <;> simp
    rcases hB with hB | hB
    · have HA' := HA.out
      rw [if_pos hB] at HA'
      have HA2 := Lib.hid HA'
      rw [hB]
      clear HA HA' hB
      go_wp2
      go_ret2
      rw [HA2.out]
      exact ⟨rfl, HK.out⟩
    · have HA' := HA.out
      rw [if_neg (by simp [hB])] at HA'
      have HA2 := Lib.hid HA'
      rw [hB]
      clear HA HA' hB
      go_wp2
      go_ret2
      rw [HA2.out]
      exact ⟨rfl, HK.out⟩
  · have hd : decide (0 ≤ s ∧ s < 7) = false := by simpa using hb
    have HD := Lib.hid hd
    have HA : Hid (nextA s e = (0, 2)) := if_neg hb
    clear hd hb
    go_enter Try.func14, Try.ntmps14
    go_wp2_with (fail)
    refine (isState_any _ _ HD.out _).mono ?_
    rintro r w1 ⟨rfl, rfl⟩
    go_wp2_with (fail)
    go_ret2
    rw [HA.out]
    exact ⟨rfl, (Keeps.refl [] w).alloc _⟩

theorem ints2 (w : World) (x y : Int) : IntsAt (w.alloc (.cells #[.int .i64 x, .int .i64 y] 3)) w.heap.size 0 [x, y] := by
  intro i hi
  have h := (Blk.new w 3 #[.int .i64 x, .int .i64 y]).cell i
  match i, hi with
  | 0, _ => exact h
  | 1, _ => exact h

theorem in_any (s : Int) (w : World) : Calls Try.prog 15 #[.int .i64 s] w fun r w' => r = .returned (.bool (decide (s = 2) || decide (s = 4))) ∧ Keeps [] w w' := by
  go_enter Try.func15, Try.ntmps15
  go_wp2_with (fail)
  refine (is_any s _ 0 2 [2, 4] _ (ints2 _ _ _) (by simp)).mono ?_
  rintro r w1 ⟨rfl, rfl⟩
  go_wp2_with (fail)
  go_ret
  exact ⟨rfl, (Keeps.refl [] w).alloc _⟩
theorem out_any (s : Int) (w : World) : Calls Try.prog 16 #[.int .i64 s] w fun r w' => r = .returned (.bool (decide (s = 2) || decide (s = 3))) ∧ Keeps [] w w' := by
  go_enter Try.func16, Try.ntmps16
  go_wp2_with (fail)
  refine (is_any s _ 0 2 [2, 3] _ (ints2 _ _ _) (by simp)).mono ?_
  rintro r w1 ⟨rfl, rfl⟩
  go_wp2_with (fail)
  go_ret
  exact ⟨rfl, (Keeps.refl [] w).alloc _⟩
theorem isEnd_any (s : Int) (w : World) : Calls Try.prog 22 #[.int .i64 s] w fun r w' => r = .returned (.bool (decide (s = 5) || decide (s = 6))) ∧ Keeps [] w w' := by
  go_enter Try.func22, Try.ntmps22
  go_wp2_with (fail)
  refine (is_any s _ 0 2 [5, 6] _ (ints2 _ _ _) (by simp)).mono ?_
  rintro r w1 ⟨rfl, rfl⟩
  go_wp2_with (fail)
  go_ret
  exact ⟨rfl, (Keeps.refl [] w).alloc _⟩
set_option maxHeartbeats 1000000 in
theorem run_bad (s : Int) (v : Value) (hs : ¬ (0 ≤ s ∧ s < 7)) (w : World) :
    Calls Try.prog 12 #[.int .i64 s, v] w fun r w' => r = .returned (.tuple #[.int .i64 0, .int .i64 0, .int .i64 2]) ∧ Keeps [] w w' := by
  have hd : decide (0 ≤ s ∧ s < 7) = false := by simpa using hs
  have HD := Lib.hid hd
  clear hd hs
  go_enter Try.func12, Try.ntmps12
  go_wp2_with (fail)
  refine (isState_any _ _ HD.out _).mono ?_
  rintro r w1 ⟨rfl, rfl⟩
  go_wp2_with (fail)
  exact bodyPost_ret (v := .tuple #[.int .i64 0, .int .i64 0, .int .i64 2]) (by simp [results, Try.results12, go_sem]) rfl ⟨rfl, (Keeps.refl [] w).alloc _⟩

set_option maxHeartbeats 1000000 in
theorem run_any (s : Nat) (hs : s ≤ 6) (xs : List Int) (a o c : Nat) (w : World) (h : IntsAt w a o xs) (hl : xs.length ≤ 1000000) (x y : Nat) (hxy : runS s xs = (x, y)) :
    Calls Try.prog 12 #[.int .i64 s, .slice (some ⟨a, o, none⟩) xs.length c] w fun r w' => r = .returned (.tuple #[.int .i64 x, .int .i64 y, .int .i64 0]) ∧ Keeps [] w w' := by
  have H := Lib.hid h
  have HX := Lib.hid hxy
  clear h hxy
  have hd : decide (0 ≤ (s : Int) ∧ (s : Int) < 7) = true := by simp; omega
  have HD := Lib.hid hd
  clear hd
  go_enter Try.func12, Try.ntmps12
  go_wp2_with (fail)
  refine (isState_any _ _ HD.out _).mono ?_
  rintro r w1 ⟨rfl, rfl⟩
  go_wp2_with (fail)
  go_loopw [9] (fun i wr => ∃ k t : Nat, k ≤ xs.length ∧ i = .int .i64 k ∧ Hid (runS s (xs.take k) = (t, k)) ∧ Wk wr w.heap.size t ∧ Keeps [] w wr) (fun i _ => xs.length - (intOf i).toNat)
  case atStart => exact ⟨0, s, Nat.zero_le _, rfl, (rfl : runS s (xs.take 0) = (s, 0)), Blk.new w 40 _, (Keeps.refl [] w).alloc _⟩
  case round =>
    obtain ⟨k, t, hk, rfl, hR, hW, hK⟩ := hrel
    have HW := Lib.hid hW
    have HK := Lib.hid hK
    clear hW hK
    by_cases hlt : k < xs.length
    · obtain ⟨e, he⟩ : ∃ e, xs[k] = e := ⟨_, rfl⟩
      have ht : t ≤ 6 := by
        have := (runS_le (xs.take k) s hs).1
        rw [hR.out] at this; exact this
      have hstep := runS_step s xs k hlt (by rw [hR.out])
      rw [hR.out, he] at hstep
      have HST := Lib.hid hstep
      have hc := (show wr.cell? ⟨a, o + k, none⟩ = some (.int .i64 e) from he ▸ (HK.out.cell (p := ⟨a, o + k, none⟩) (World.block_lt_of_cell? w _ (H.out k hlt)) (by simp)).trans (H.out k hlt))
      clear hstep he
      go_wp2_with (fail)
      refine (step_any _ t e ht _ HW.out).mono ?_
      rintro r w2 ⟨rfl, hw, hk2⟩
      have c0 := hw.c0
      have HW2 := Lib.hid hw
      have HK2 := Lib.hid (HK.out.trans' hk2 (by simp))
      clear hw hk2 hc
      cases hn : nxt t e with
      | none =>
        have hB : nxtB t e = false := by simp [nxtB, hn]
        have hS : nxtS t e = t := by simp [nxtS, hn]
        have hfin := HST.out.2 hn
        rw [HX.out] at hfin
        obtain ⟨rfl, rfl⟩ : x = t ∧ y = k := by simpa using hfin
        rw [hS] at c0
        rw [hB]
        clear hn hB hS hfin
        go_wp2
        exact bodyPost_ret (v := .tuple #[.int .i64 x, .int .i64 y, .int .i64 0]) (by simp [results, Try.results12, go_sem]) rfl ⟨rfl, HK2.out⟩
      | some u =>
        have hB : nxtB t e = true := by simp [nxtB, hn]
        have hS : nxtS t e = u := by simp [nxtS, hn]
        have hnx := HST.out.1 u hn
        have HN : Hid (runS s (xs.take (k + 1)) = (u, k + 1)) := Prod.ext hnx.1 hnx.2
        have hw3 := HW2.out
        rw [hS] at hw3
        have HW3 := Lib.hid hw3
        rw [hB]
        clear hn hB hS hnx hw3
        go_wp2
        go_roundw
        case rel => exact ⟨k + 1, u, by omega, by go_num, HN, HW3.out, HK2.out⟩
        case measure => simp [intOf]; omega
    · obtain rfl : k = xs.length := by omega
      have c0 := HW.out.c0
      have hfin := runS_all s xs (by rw [hR.out])
      rw [hR.out, HX.out] at hfin
      obtain ⟨rfl, rfl⟩ : x = t ∧ y = xs.length := by simpa using hfin
      clear hfin
      go_wp2
      exact bodyPost_ret (v := .tuple #[.int .i64 x, .int .i64 xs.length, .int .i64 0]) (by simp [results, Try.results12, go_sem]) rfl ⟨rfl, HK.out⟩
end Go.Proofs.Ytfgkfhchnnkonaa
