/- The document's credit: Right, Left, Grant, Spend; what a direction is. -/
import Derived.Test.YtollcbacpoohlaaGreatDoorTunQ
namespace Go.Proofs.YtollcbacpoohlaaGreatDoor
open Go.RowKit

theorem vside_any (side : Int) (b : Bool) (hb : sideB side = b) (w : World) : Calls Tryz.prog 51 #[.int .i64 side] w fun e w' => e = .returned (.bool b) ∧ w = w' := by
  unfold sideB at hb
  by_cases h0 : side = 0
  · subst h0
    obtain rfl : b = true := by rw [← hb]; rfl
    clear hb
    go_enter Tryz.func51, Tryz.ntmps51
    go_wp2
    go_ret
    exact ⟨rfl, rfl⟩
  · have h0' : (side == 0) = false := by simpa using h0
    have hb' : (side == 1) = b := by
      rw [← hb]
      simp only [h0, decide_false, Bool.false_or]
      rfl
    clear hb h0
    go_enter Tryz.func51, Tryz.ntmps51
    go_wp2
    go_ret
    exact ⟨rfl, rfl⟩

set_option maxHeartbeats 1000000 in
theorem vRight_ok (g s : Nat) (h : okC g s = true) (w : World) : Calls Tryz.prog 76 #[.agg #[.int .i64 g, .int .i64 s]] w fun e w' => e = .returned (.bool true) ∧ Keeps [] w w' := by
  obtain ⟨h1, h2, h3⟩ := okC_le h
  have e0 : decide ((0 : Int) ≤ (s : Int)) = true := by simp
  have e1 : decide (s ≤ g) = true := by simpa using h1
  have e2 : decide ((g : Int) ≤ 1000000000000) = true := by simp; omega
  have e3 : decide ((g : Int) - (s : Int) ≤ 65536) = true := by simp; omega
  clear h
  go_enter Tryz.func76, Tryz.ntmps76
  go_wp2
  go_ret
  exact ⟨ret_bool (by simp), (Keeps.refl [] w).alloc _⟩

theorem vLeft_any (g s : Nat) (h : okC g s = true) (w : World) : Calls Tryz.prog 56 #[.agg #[.int .i64 g, .int .i64 s]] w fun e w' => e = .returned (.int .i64 ((g - s : Nat) : Int)) ∧ Keeps [] w w' := by
  obtain ⟨h1, h2, h3⟩ := okC_le h
  have hb := Blk.new w 64 #[.int .i64 g, .int .i64 s]
  have HB := Lib.hid hb
  have H := Lib.hid h
  clear h hb
  go_enter Tryz.func56, Tryz.ntmps56
  go_wp2_with (fail)
  refine (vRight_ok g s H.out _).mono ?_
  rintro e w1 ⟨rfl, hk⟩
  have q := HB.out.keeps hk (by simp)
  have c0 := q.cell 0
  have c1 := q.cell 1
  have HK := Lib.hid (((Keeps.refl [] w).alloc _).trans hk)
  clear hk q
  go_wp2
  go_ret
  exact ⟨ret_int (by omega), HK.out⟩

/-- What lies in memory behind Grant's, Spend's first steps: credit at the first block, the result at the second. -/
theorem v13_blks {w W : World} {g s : Nat} (hW : (w.alloc (.cells #[.int .i64 g, .int .i64 s] 64)).alloc (.cells #[.int .i64 0, .int .i64 0] 64) = W) :
    Blk W w.heap.size 64 #[.int .i64 g, .int .i64 s] ∧ Blk W (w.heap.size + 1) 64 #[.int .i64 0, .int .i64 0] ∧ Keeps [] w W := by
  subst hW
  refine ⟨(Blk.new w _ _).alloc _, ?_, ((Keeps.refl [] w).alloc _).alloc _⟩
  have := Blk.new (w.alloc (.cells #[.int .i64 g, .int .i64 s] 64)) 64 #[.int .i64 0, .int .i64 0]
  rwa [World.size_alloc] at this

set_option maxHeartbeats 2000000 in
theorem vGrant_any (g s : Nat) (n : Int) (h : okC g s = true) (x y z : Int) (hx : grantA g s n = (x, y, z)) (w : World) :
    Calls Tryz.prog 52 #[.agg #[.int .i64 g, .int .i64 s], .int .i64 n] w fun e w' => e = .returned (.tuple #[.agg #[.int .i64 x, .int .i64 y], .int .i64 z]) ∧ Keeps [] w w' := by
  obtain ⟨h1, h2, h3⟩ := okC_le h
  have hcase : (n < 0 ∧ x = 0 ∧ y = 0 ∧ z = 2) ∨ (0 ≤ n ∧ 65536 - (g - s : Nat) < n ∧ x = 0 ∧ y = 0 ∧ z = 130) ∨ (0 ≤ n ∧ ¬ 65536 - ((g - s : Nat) : Int) < n ∧ 1000000000000 - (g : Int) < n ∧ x = 0 ∧ y = 0 ∧ z = 130) ∨
      (0 ≤ n ∧ ¬ 65536 - ((g - s : Nat) : Int) < n ∧ ¬ 1000000000000 - (g : Int) < n ∧ x = (g : Int) + n ∧ y = s ∧ z = 0) := by
    unfold grantA at hx
    by_cases a1 : n < 0
    · rw [if_pos a1] at hx
      simp only [Prod.mk.injEq] at hx
      exact .inl ⟨a1, hx.1.symm, hx.2.1.symm, hx.2.2.symm⟩
    · rw [if_neg a1] at hx
      right
      by_cases a2 : 65536 - ((g - s : Nat) : Int) < n
      · left
        have hz : (0, 0, 130) = (x, y, z) := by
          by_cases a3 : 1000000000000 < n
          · rwa [if_pos a3] at hx
          · rw [if_neg a3, if_neg (by unfold okC; simp; omega)] at hx
            exact hx
        simp only [Prod.mk.injEq] at hz
        exact ⟨by omega, a2, hz.1.symm, hz.2.1.symm, hz.2.2.symm⟩
      · right
        by_cases a4 : 1000000000000 - (g : Int) < n
        · left
          rw [if_neg (by omega), if_neg (by unfold okC; simp; omega)] at hx
          simp only [Prod.mk.injEq] at hx
          exact ⟨by omega, a2, a4, hx.1.symm, hx.2.1.symm, hx.2.2.symm⟩
        · right
          rw [if_neg (by omega), if_pos (by unfold okC; simp; omega)] at hx
          simp only [Prod.mk.injEq] at hx
          exact ⟨by omega, a2, a4, by omega, hx.2.1.symm, hx.2.2.symm⟩
  obtain ⟨W, hW⟩ : ∃ W, (w.alloc (.cells #[.int .i64 g, .int .i64 s] 64)).alloc (.cells #[.int .i64 0, .int .i64 0] 64) = W := ⟨_, rfl⟩
  obtain ⟨hb0, hb1, hK⟩ := v13_blks hW
  have HB0 := Lib.hid hb0
  have HB1 := Lib.hid hb1
  have HK := Lib.hid hK
  have HW := Lib.hid hW
  have H := Lib.hid h
  have HC := Lib.hid hcase
  clear h hx hcase hW hb0 hb1 hK
  go_enter Tryz.func52, Tryz.ntmps52
  go_wp2_with (fail)
  rw [HW.out]
  refine (vRight_ok g s H.out _).mono ?_
  rintro e w1 ⟨rfl, hk⟩
  have q0 := HB0.out.keeps hk (by simp)
  have q1 := HB1.out.keeps hk (by simp)
  have a0 := q0.cell 0
  have a1 := q0.cell 1
  have b0 := q1.cell 0
  have b1 := q1.cell 1
  have f0 := q1.frozen 0
  have f1 := q1.frozen 1
  have R0 := fun (p q : Value) => Lib.hid (set2_c0 (x := p) (y := q) b0)
  have R1 := fun (p q : Value) => Lib.hid (set2_c1 (x := p) (y := q) b1)
  have HK1 := Lib.hid (HK.out.trans hk)
  simp only [List.getElem?_toArray, List.getElem?_cons_zero, List.getElem?_cons_succ] at a0 a1 b0 b1
  have HQ0 := Lib.hid q0
  have HQ1 := Lib.hid q1
  have HR := Lib.hid (And.intro (fun (p q : Value) => set2_c0 (x := p) (y := q) b0) (fun (p q : Value) => set2_c1 (x := p) (y := q) b1))
  clear hk q0 q1 R0 R1
  rcases HC.out with ⟨c1, rfl, rfl, rfl⟩ | ⟨c0, c1, rfl, rfl, rfl⟩ | ⟨c0, c1, c2, rfl, rfl, rfl⟩ | ⟨c0, c1, c2, rfl, rfl, rfl⟩
  · go_wp2_with (fail)
    have r0 := HR.out.1 (.int .i64 0) (.int .i64 0)
    have r1 := HR.out.2 (.int .i64 0) (.int .i64 0)
    exact bodyPost_ret (v := .tuple #[.agg #[.int .i64 0, .int .i64 0], .int .i64 2]) (by simp [results, Tryz.results52, go_sem, r0, r1]) rfl ⟨rfl, keeps_st2 HK1.out (by omega) _ _⟩
  all_goals
    have c0' : ¬ n < 0 := by omega
    clear b0 b1 f0 f1 HR
    go_wp2_with (fail)
    refine (vLeft_any g s H.out _).mono ?_
    rintro e w2 ⟨rfl, hk⟩
    clear a0 a1
    have q0 := HQ0.out.keeps hk (by simp)
    have q1 := HQ1.out.keeps hk (by simp)
    have a0 := q0.cell 0
    have a1 := q0.cell 1
    have b0 := q1.cell 0
    have b1 := q1.cell 1
    have f0 := q1.frozen 0
    have f1 := q1.frozen 1
    have HR := Lib.hid (And.intro (fun (p q : Value) => set2_c0 (x := p) (y := q) b0) (fun (p q : Value) => set2_c1 (x := p) (y := q) b1))
    have HK2 := Lib.hid (HK1.out.trans hk)
    simp only [List.getElem?_toArray, List.getElem?_cons_zero, List.getElem?_cons_succ] at a0 a1 b0 b1
    clear hk q0 q1
    go_wp2_with (fail)
  · have r0 := HR.out.1 (.int .i64 0) (.int .i64 0)
    have r1 := HR.out.2 (.int .i64 0) (.int .i64 0)
    exact bodyPost_ret (v := .tuple #[.agg #[.int .i64 0, .int .i64 0], .int .i64 130]) (by simp [results, Tryz.results52, go_sem, r0, r1]) rfl ⟨rfl, keeps_st2 HK2.out (by omega) _ _⟩
  · have r0 := HR.out.1 (.int .i64 0) (.int .i64 0)
    have r1 := HR.out.2 (.int .i64 0) (.int .i64 0)
    exact bodyPost_ret (v := .tuple #[.agg #[.int .i64 0, .int .i64 0], .int .i64 130]) (by simp [results, Tryz.results52, go_sem, r0, r1]) rfl ⟨rfl, keeps_st2 HK2.out (by omega) _ _⟩
  · have r0 := HR.out.1 (.int .i64 ((g : Int) + n)) (.int .i64 s)
    have r1 := HR.out.2 (.int .i64 ((g : Int) + n)) (.int .i64 s)
    exact bodyPost_ret (v := .tuple #[.agg #[.int .i64 ((g : Int) + n), .int .i64 s], .int .i64 0]) (by simp [results, Tryz.results52, go_sem, r0, r1]) rfl ⟨rfl, keeps_st2 HK2.out (by omega) _ _⟩

set_option maxHeartbeats 2000000 in
theorem vSpend_ok (g s n sp : Nat) (hsp : s + n = sp) (h : okC g s = true) (hn : n ≤ g - s) (w : World) :
    Calls Tryz.prog 58 #[.agg #[.int .i64 g, .int .i64 s], .int .i64 n] w fun e w' => e = .returned (.tuple #[.agg #[.int .i64 g, .int .i64 sp], .int .i64 0]) ∧ Keeps [] w w' := by
  obtain ⟨h1, h2, h3⟩ := okC_le h
  obtain ⟨W, hW⟩ : ∃ W, (w.alloc (.cells #[.int .i64 g, .int .i64 s] 64)).alloc (.cells #[.int .i64 0, .int .i64 0] 64) = W := ⟨_, rfl⟩
  obtain ⟨hb0, hb1, hK⟩ := v13_blks hW
  have HB0 := Lib.hid hb0
  have HB1 := Lib.hid hb1
  have HK := Lib.hid hK
  have HW := Lib.hid hW
  have H := Lib.hid h
  have HSP := Lib.hid hsp
  clear h hW hb0 hb1 hK hsp
  go_enter Tryz.func58, Tryz.ntmps58
  go_wp2_with (fail)
  rw [HW.out]
  refine (vRight_ok g s H.out _).mono ?_
  rintro e w1 ⟨rfl, hk⟩
  have q0 := HB0.out.keeps hk (by simp)
  have a0 := q0.cell 0
  have a1 := q0.cell 1
  have HQ0 := Lib.hid q0
  have HQ1 := Lib.hid (HB1.out.keeps hk (by simp))
  have HK1 := Lib.hid (HK.out.trans hk)
  clear hk q0
  go_wp2_with (fail)
  refine (vLeft_any g s H.out _).mono ?_
  rintro e w2 ⟨rfl, hk⟩
  have q0 := HQ0.out.keeps hk (by simp)
  have q1 := HQ1.out.keeps hk (by simp)
  have a0 := q0.cell 0
  have a1 := q0.cell 1
  have b0 := q1.cell 0
  have b1 := q1.cell 1
  have f0 := q1.frozen 0
  have f1 := q1.frozen 1
  have HR := Lib.hid (And.intro (set2_c0 (x := .int .i64 g) (y := .int .i64 ((s : Int) + (n : Int))) b0) (set2_c1 (x := .int .i64 g) (y := .int .i64 ((s : Int) + (n : Int))) b1))
  have HK2 := Lib.hid (HK1.out.trans hk)
  have hle : ¬ g - s < n := by omega
  simp only [List.getElem?_toArray, List.getElem?_cons_zero, List.getElem?_cons_succ] at a0 a1 b0 b1
  clear hk q0 q1
  go_wp2_with (fail)
  obtain ⟨r0, r1⟩ := HR.out
  rw [← HSP.out]
  exact bodyPost_ret (v := .tuple #[.agg #[.int .i64 g, .int .i64 ((s : Int) + (n : Int))], .int .i64 0]) (by simp [results, Tryz.results58, go_sem, r0, r1]) rfl ⟨by rw [Int.natCast_add], keeps_st2 HK2.out (by omega) _ _⟩
end Go.Proofs.YtollcbacpoohlaaGreatDoor
