/- The walks of credit: Grant, Spend. -/
import Derived.Test.YtollcbacpoohlaaGreatDoorTunD
namespace Go.Proofs.YtollcbacpoohlaaGreatDoor
open Go.RowKit

/-- Grant's answer: the credit behind it, and its error. -/
def grantA (g s : Nat) (n : Int) : Int × Int × Int :=
  if n < 0 then (0, 0, 2) else if 1000000000000 < n then (0, 0, 130) else if okC (g + n.toNat) s then ((g + n.toNat : Nat), s, 0) else (0, 0, 130)

theorem changed_any (g s : Nat) (n : Int) (h : okC g s = true) (w : World) :
    Calls Tryz.prog 65 #[.agg #[.int .i64 g, .int .i64 s], .int .i64 n, .int .i64 0] w fun e w' => e = .returned (.tuple #[.agg #[.int .i64 (grantA g s n).1, .int .i64 (grantA g s n).2.1], .int .i64 (grantA g s n).2.2]) ∧ Keeps [] w w' := by
  unfold grantA
  by_cases h1 : n < 0
  · rw [if_pos h1]; exact changed_neg g s n h h1 w
  · rw [if_neg h1]
    by_cases h2 : 1000000000000 < n
    · rw [if_pos h2]; exact changed_big g s n h h2 w
    · rw [if_neg h2]
      obtain ⟨a, rfl⟩ : ∃ a : Nat, n = a := ⟨n.toNat, by omega⟩
      rw [Int.toNat_natCast]
      cases h3 : okC (g + a) s with
      | true => rw [if_pos rfl]; exact changed_ok g s a 0 h (by omega) (by omega) h3 w
      | false => rw [if_neg (by simp)]; exact changed_bad g s a 0 h (by omega) (by omega) h3 w

theorem spent_ok (g s n : Nat) (h : okC g s = true) (hn : n ≤ g - s) : okC g (s + n) = true := by
  obtain ⟨h1, h2, h3⟩ := okC_le h
  unfold okC; simp; omega

set_option maxHeartbeats 1000000 in
theorem cGrant_any (g s : Nat) (n : Int) (h : okC g s = true) (x y z : Int) (hx : grantA g s n = (x, y, z)) (w : World) :
    Calls Tryz.prog 37 #[.agg #[.int .i64 g, .int .i64 s], .int .i64 n] w fun e w' => e = .returned (.tuple #[.agg #[.int .i64 x, .int .i64 y], .int .i64 z]) ∧ Keeps [] w w' := by
  have hc := changed_any g s n h
  rw [hx] at hc
  dsimp only at hc
  have HC := Lib.hid hc
  have hb := (Blk.new w 64 #[.int .i64 g, .int .i64 s]).alloc (.cells #[.int .i64 0, .int .i64 0] 64)
  have hb2 := Blk.new (w.alloc (.cells #[.int .i64 g, .int .i64 s] 64)) 64 #[.int .i64 0, .int .i64 0]
  rw [World.size_alloc] at hb2
  have HB2 := Lib.hid hb2
  clear hx hc h hb hb2
  go_enter Tryz.func37, Tryz.ntmps37
  go_wp2_with (fail)
  refine (HC.out _).mono ?_
  rintro e w1 ⟨rfl, hk⟩
  have q := HB2.out.keeps hk (by simp)
  have b0 := q.cell 0
  have b1 := q.cell 1
  have f0 := q.frozen 0
  have f1 := q.frozen 1
  have HK := Lib.hid ((((Keeps.refl [] w).alloc _).alloc _).trans hk)
  have R0 := Lib.hid (set2_c0 (x := .int .i64 x) (y := .int .i64 y) b0)
  have R1 := Lib.hid (set2_c1 (x := .int .i64 x) (y := .int .i64 y) b1)
  clear hk q
  go_wp2_with (fail)
  have r0 := R0.out
  have r1 := R1.out
  exact bodyPost_ret (v := .tuple #[.agg #[.int .i64 x, .int .i64 y], .int .i64 z]) (by simp [results, Tryz.results37, go_sem, r0, r1]) rfl ⟨rfl, keeps_st2 HK.out (by omega) _ _⟩

set_option maxHeartbeats 1000000 in
theorem cSpend_any (g s n : Nat) (h : okC g s = true) (hn : n ≤ g - s) (w : World) :
    Calls Tryz.prog 71 #[.agg #[.int .i64 g, .int .i64 s], .int .i64 n] w fun e w' => e = .returned (.tuple #[.agg #[.int .i64 g, .int .i64 (s + n : Nat)], .int .i64 0]) ∧ Keeps [] w w' := by
  have HC := Lib.hid (changed_ok g s 0 n h (by omega) hn (spent_ok g s n h hn))
  obtain ⟨y, hy⟩ : ∃ y : Int, ((s + n : Nat) : Int) = y := ⟨_, rfl⟩
  obtain ⟨x, hx⟩ : ∃ x : Int, ((g + 0 : Nat) : Int) = x := ⟨_, rfl⟩
  have hc := HC.out
  rw [hy, hx] at hc
  rw [hy, show (g : Int) = x from by rw [← hx]; simp]
  have HC2 := Lib.hid hc
  have hb2 := Blk.new (w.alloc (.cells #[.int .i64 x, .int .i64 s] 64)) 64 #[.int .i64 0, .int .i64 0]
  rw [World.size_alloc] at hb2
  have HB2 := Lib.hid hb2
  have HX := Lib.hid hx
  clear hb2 HC hc hn h hy hx
  go_enter Tryz.func71, Tryz.ntmps71
  go_wp2_with (fail)
  have hg : (g : Int) = x := by rw [← HX.out]; simp
  have hc := HC2.out
  rw [hg] at hc
  refine (hc _).mono ?_
  clear hc hg
  rintro e w1 ⟨rfl, hk⟩
  have q := HB2.out.keeps hk (by simp)
  have b0 := q.cell 0
  have b1 := q.cell 1
  have f0 := q.frozen 0
  have f1 := q.frozen 1
  have HK := Lib.hid ((((Keeps.refl [] w).alloc _).alloc _).trans hk)
  have R0 := Lib.hid (set2_c0 (x := .int .i64 x) (y := .int .i64 y) b0)
  have R1 := Lib.hid (set2_c1 (x := .int .i64 x) (y := .int .i64 y) b1)
  clear hk q
  go_wp2_with (fail)
  have r0 := R0.out
  have r1 := R1.out
  exact bodyPost_ret (v := .tuple #[.agg #[.int .i64 x, .int .i64 y], .int .i64 0]) (by simp [results, Tryz.results71, go_sem, r0, r1]) rfl ⟨rfl, keeps_st2 HK.out (by omega) _ _⟩
end Go.Proofs.YtollcbacpoohlaaGreatDoor
