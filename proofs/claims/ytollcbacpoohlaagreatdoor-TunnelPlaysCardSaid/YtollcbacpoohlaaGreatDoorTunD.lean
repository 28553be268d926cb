/- The walks of credit: Left, Grant, Spend. -/
import Derived.Test.YtollcbacpoohlaaGreatDoorTunC
import Derived.Test.YtollcbacpoohlaaGreatDoorGoto
namespace Go.Proofs.YtollcbacpoohlaaGreatDoor
open Go.RowKit

theorem okC_le {g s : Nat} (h : okC g s = true) : s ≤ g ∧ g ≤ 1000000000000 ∧ g - s ≤ 65536 := by
  unfold okC at h; simpa using h

set_option maxHeartbeats 1000000 in
theorem cLeft_any (g s : Nat) (h : okC g s = true) (w : World) :
    Calls Tryz.prog 86 #[.agg #[.int .i64 g, .int .i64 s]] w fun e w' => e = .returned (.int .i64 ((g - s : Nat) : Int)) ∧ Keeps [] w w' := by
  obtain ⟨h1, h2, h3⟩ := okC_le h
  have H := Lib.hid h
  have hb := Blk.new w 64 #[.int .i64 g, .int .i64 s]
  have HB := Lib.hid hb
  clear h hb
  go_enter Tryz.func86, Tryz.ntmps86
  go_wp2_with (fail)
  refine (cRight_any g s (by omega) true H.out _).mono ?_
  rintro e w1 ⟨rfl, hk⟩
  have hb1 := HB.out.keeps hk (by simp)
  have c0 := hb1.cell 0
  have c1 := hb1.cell 1
  have HK := Lib.hid (((Keeps.refl [] w).alloc _).trans hk)
  clear hk hb1
  go_wp2_with (fail)
  refine (cn_any g s h1 (by omega) _).mono ?_
  rintro e w2 ⟨rfl, hk⟩
  have HK2 := Lib.hid (HK.out.trans hk)
  clear hk c0 c1
  go_wp2
  go_ret
  exact ⟨rfl, HK2.out⟩

/-- The world of changed: credit at b, the result at b + 1, none at b + 2, the new one at b + 3. -/
theorem ch_blks {w W : World} {g s : Nat} (hW : (((w.alloc (.cells #[.int .i64 g, .int .i64 s] 104)).alloc (.cells #[.int .i64 0, .int .i64 0] 64)).alloc (.cells #[.int .i64 0, .int .i64 0] 64)).alloc (.cells #[.int .i64 0, .int .i64 0] 64) = W) :
    Blk W w.heap.size 104 #[.int .i64 g, .int .i64 s] ∧ Blk W (w.heap.size + 1) 64 #[.int .i64 0, .int .i64 0] ∧ Blk W (w.heap.size + 1 + 1) 64 #[.int .i64 0, .int .i64 0] ∧ Blk W (w.heap.size + 1 + 1 + 1) 64 #[.int .i64 0, .int .i64 0] ∧ Keeps [] w W := by
  subst hW
  refine ⟨(((Blk.new w _ _).alloc _).alloc _).alloc _, ?_, ?_, ?_, ((((Keeps.refl [] w).alloc _).alloc _).alloc _).alloc _⟩
  · have := Blk.new (w.alloc (.cells #[.int .i64 g, .int .i64 s] 104)) 64 #[.int .i64 0, .int .i64 0]
    rw [World.size_alloc] at this
    exact (this.alloc _).alloc _
  · have := Blk.new ((w.alloc (.cells #[.int .i64 g, .int .i64 s] 104)).alloc (.cells #[.int .i64 0, .int .i64 0] 64)) 64 #[.int .i64 0, .int .i64 0]
    rw [World.size_alloc, World.size_alloc] at this
    exact this.alloc _
  · have := Blk.new (((w.alloc (.cells #[.int .i64 g, .int .i64 s] 104)).alloc (.cells #[.int .i64 0, .int .i64 0] 64)).alloc (.cells #[.int .i64 0, .int .i64 0] 64)) 64 #[.int .i64 0, .int .i64 0]
    rw [World.size_alloc, World.size_alloc, World.size_alloc] at this
    exact this

theorem set2_c0 {w : World} {g : Nat} {u x y : Value} (h : w.cell? ⟨g, 0, none⟩ = some u) : ((w.setCell ⟨g, 0, none⟩ x).setCell ⟨g, 1, none⟩ y).cell? ⟨g, 0, none⟩ = some x := by
  rw [World.cell?_setCell_other _ _ _ _ (by simp)]
  exact World.cell?_setCell_same _ _ _ h
theorem set2_c1 {w : World} {g : Nat} {u x y : Value} (h : w.cell? ⟨g, 1, none⟩ = some u) : ((w.setCell ⟨g, 0, none⟩ x).setCell ⟨g, 1, none⟩ y).cell? ⟨g, 1, none⟩ = some y :=
  World.cell?_setCell_same _ _ _ (by rw [World.cell?_setCell_other _ _ _ _ (by simp)]; exact h)
theorem keeps_st2 {w w1 : World} {g : Nat} (hk : Keeps [] w w1) (hg : w.heap.size ≤ g) (x y : Value) : Keeps [] w ((w1.setCell ⟨g, 0, none⟩ x).setCell ⟨g, 1, none⟩ y) :=
  (hk.setCell (p := ⟨g, 0, none⟩) (.inr hg) x).setCell (p := ⟨g, 1, none⟩) (.inr hg) y

set_option maxHeartbeats 2000000 in
/-- A negative grant. -/
theorem changed_neg (g s : Nat) (n : Int) (h : okC g s = true) (hn : n < 0) (w : World) :
    Calls Tryz.prog 65 #[.agg #[.int .i64 g, .int .i64 s], .int .i64 n, .int .i64 0] w fun e w' => e = .returned (.tuple #[.agg #[.int .i64 0, .int .i64 0], .int .i64 2]) ∧ Keeps [] w w' := by
  obtain ⟨h1, h2, h3⟩ := okC_le h
  have H := Lib.hid h
  clear h
  go_enter Tryz.func65, Tryz.ntmps65
  go_wp2_with (fail)
  refine wp_scope_fwd 0 rfl ?_
  go_wp2_with (fail)
  obtain ⟨W, hW⟩ : ∃ W, (((w.alloc (.cells #[.int .i64 g, .int .i64 s] 104)).alloc (.cells #[.int .i64 0, .int .i64 0] 64)).alloc (.cells #[.int .i64 0, .int .i64 0] 64)).alloc (.cells #[.int .i64 0, .int .i64 0] 64) = W := ⟨_, rfl⟩
  rw [hW]
  obtain ⟨hb0, hb1, hb2, hb3, hK⟩ := ch_blks hW
  have HB0 := Lib.hid hb0
  have HB1 := Lib.hid hb1
  have HB2 := Lib.hid hb2
  have HB3 := Lib.hid hb3
  have HK := Lib.hid hK
  clear hW hb0 hb1 hb2 hb3 hK
  refine (cRight_any g s (by omega) true H.out W).mono ?_
  rintro e w1 ⟨rfl, hk⟩
  have q0 := HB0.out.keeps hk (by simp)
  have q1 := HB1.out.keeps hk (by simp)
  have q2 := HB2.out.keeps hk (by simp)
  have q3 := HB3.out.keeps hk (by simp)
  have HK1 := Lib.hid (HK.out.trans hk)
  have a0 := q0.cell 0
  have a1 := q0.cell 1
  have b0 := q1.cell 0
  have b1 := q1.cell 1
  have f0 := q1.frozen 0
  have f1 := q1.frozen 1
  have c0 := q2.cell 0
  have c1 := q2.cell 1
  have d0 := q3.cell 0
  have d1 := q3.cell 1
  have e0 := q3.frozen 0
  have e1 := q3.frozen 1
  have r0 := set2_c0 (x := .int .i64 0) (y := .int .i64 0) b0
  have r1 := set2_c1 (x := .int .i64 0) (y := .int .i64 0) b1
  simp only [List.getElem?_toArray, List.getElem?_cons_zero, List.getElem?_cons_succ] at a0 a1 b0 b1 c0 c1 d0 d1
  have HQ10 := Lib.hid q0
  have HQ11 := Lib.hid q1
  have HQ12 := Lib.hid q2
  have HQ13 := Lib.hid q3
  have R0 := Lib.hid r0
  have R1 := Lib.hid r1
  clear hk q0 q1 q2 q3 r0 r1 HB0 HB1 HB2 HB3
  go_wp2_with (fail)
  go_step3
  refine (show (0 : Nat) = 0 ∧ Code.wp _ _ _ _ _ from ⟨rfl, ?_⟩)
  go_wp2_with (fail)
  rw [Exit.noGoto_ret]
  have r0 := R0.out
  have r1 := R1.out
  exact bodyPost_ret (v := .tuple #[.agg #[.int .i64 0, .int .i64 0], .int .i64 2]) (by simp [results, Tryz.results65, go_sem, r0, r1]) rfl ⟨rfl, keeps_st2 HK1.out (by omega) _ _⟩
set_option maxHeartbeats 2000000 in
/-- A grant that is too great by itself. -/
theorem changed_big (g s : Nat) (n : Int) (h : okC g s = true) (hn : 1000000000000 < n) (w : World) :
    Calls Tryz.prog 65 #[.agg #[.int .i64 g, .int .i64 s], .int .i64 n, .int .i64 0] w fun e w' => e = .returned (.tuple #[.agg #[.int .i64 0, .int .i64 0], .int .i64 130]) ∧ Keeps [] w w' := by
  obtain ⟨h1, h2, h3⟩ := okC_le h
  have H := Lib.hid h
  clear h
  go_enter Tryz.func65, Tryz.ntmps65
  go_wp2_with (fail)
  refine wp_scope_fwd 0 rfl ?_
  go_wp2_with (fail)
  obtain ⟨W, hW⟩ : ∃ W, (((w.alloc (.cells #[.int .i64 g, .int .i64 s] 104)).alloc (.cells #[.int .i64 0, .int .i64 0] 64)).alloc (.cells #[.int .i64 0, .int .i64 0] 64)).alloc (.cells #[.int .i64 0, .int .i64 0] 64) = W := ⟨_, rfl⟩
  rw [hW]
  obtain ⟨hb0, hb1, hb2, hb3, hK⟩ := ch_blks hW
  have HB0 := Lib.hid hb0
  have HB1 := Lib.hid hb1
  have HB2 := Lib.hid hb2
  have HB3 := Lib.hid hb3
  have HK := Lib.hid hK
  clear hW hb0 hb1 hb2 hb3 hK
  refine (cRight_any g s (by omega) true H.out W).mono ?_
  rintro e w1 ⟨rfl, hk⟩
  have q0 := HB0.out.keeps hk (by simp)
  have q1 := HB1.out.keeps hk (by simp)
  have q2 := HB2.out.keeps hk (by simp)
  have q3 := HB3.out.keeps hk (by simp)
  have HK1 := Lib.hid (HK.out.trans hk)
  have a0 := q0.cell 0
  have a1 := q0.cell 1
  have b0 := q1.cell 0
  have b1 := q1.cell 1
  have f0 := q1.frozen 0
  have f1 := q1.frozen 1
  have c0 := q2.cell 0
  have c1 := q2.cell 1
  have d0 := q3.cell 0
  have d1 := q3.cell 1
  have e0 := q3.frozen 0
  have e1 := q3.frozen 1
  have r0 := set2_c0 (x := .int .i64 0) (y := .int .i64 0) b0
  have r1 := set2_c1 (x := .int .i64 0) (y := .int .i64 0) b1
  simp only [List.getElem?_toArray, List.getElem?_cons_zero, List.getElem?_cons_succ] at a0 a1 b0 b1 c0 c1 d0 d1
  have HQ10 := Lib.hid q0
  have HQ11 := Lib.hid q1
  have HQ12 := Lib.hid q2
  have HQ13 := Lib.hid q3
  have R0 := Lib.hid r0
  have R1 := Lib.hid r1
  clear hk q0 q1 q2 q3 r0 r1 HB0 HB1 HB2 HB3
  go_wp2_with (fail)
  simp only [Exit.jump]
  have r0 := R0.out
  have r1 := R1.out
  exact bodyPost_ret (v := .tuple #[.agg #[.int .i64 0, .int .i64 0], .int .i64 130]) (by simp [results, Tryz.results65, go_sem, r0, r1]) rfl ⟨rfl, keeps_st2 HK1.out (by omega) _ _⟩
set_option maxHeartbeats 2000000 in
/-- It is right behind that. -/
theorem changed_ok (g s a b : Nat) (h : okC g s = true) (ha : a ≤ 1000000000000) (hb : b ≤ g - s) (hB : okC (g + a) (s + b) = true) (w : World) :
    Calls Tryz.prog 65 #[.agg #[.int .i64 g, .int .i64 s], .int .i64 a, .int .i64 b] w fun e w' => e = .returned (.tuple #[.agg #[.int .i64 ((g + a : Nat)), .int .i64 ((s + b : Nat))], .int .i64 0]) ∧ Keeps [] w w' := by
  obtain ⟨h1, h2, h3⟩ := okC_le h
  have H := Lib.hid h
  clear h
  go_enter Tryz.func65, Tryz.ntmps65
  go_wp2_with (fail)
  refine wp_scope_fwd 0 rfl ?_
  go_wp2_with (fail)
  obtain ⟨W, hW⟩ : ∃ W, (((w.alloc (.cells #[.int .i64 g, .int .i64 s] 104)).alloc (.cells #[.int .i64 0, .int .i64 0] 64)).alloc (.cells #[.int .i64 0, .int .i64 0] 64)).alloc (.cells #[.int .i64 0, .int .i64 0] 64) = W := ⟨_, rfl⟩
  rw [hW]
  obtain ⟨hb0, hb1, hb2, hb3, hK⟩ := ch_blks hW
  have HB0 := Lib.hid hb0
  have HB1 := Lib.hid hb1
  have HB2 := Lib.hid hb2
  have HB3 := Lib.hid hb3
  have HK := Lib.hid hK
  clear hW hb0 hb1 hb2 hb3 hK
  refine (cRight_any g s (by omega) true H.out W).mono ?_
  rintro e w1 ⟨rfl, hk⟩
  have q0 := HB0.out.keeps hk (by simp)
  have q1 := HB1.out.keeps hk (by simp)
  have q2 := HB2.out.keeps hk (by simp)
  have q3 := HB3.out.keeps hk (by simp)
  have HK1 := Lib.hid (HK.out.trans hk)
  have a0 := q0.cell 0
  have a1 := q0.cell 1
  have b0 := q1.cell 0
  have b1 := q1.cell 1
  have f0 := q1.frozen 0
  have f1 := q1.frozen 1
  have c0 := q2.cell 0
  have c1 := q2.cell 1
  have d0 := q3.cell 0
  have d1 := q3.cell 1
  have e0 := q3.frozen 0
  have e1 := q3.frozen 1
  have r0 := set2_c0 (x := .int .i64 0) (y := .int .i64 0) b0
  have r1 := set2_c1 (x := .int .i64 0) (y := .int .i64 0) b1
  simp only [List.getElem?_toArray, List.getElem?_cons_zero, List.getElem?_cons_succ] at a0 a1 b0 b1 c0 c1 d0 d1
  have HQ10 := Lib.hid q0
  have HQ11 := Lib.hid q1
  have HQ12 := Lib.hid q2
  have HQ13 := Lib.hid q3
  have R0 := Lib.hid r0
  have R1 := Lib.hid r1
  clear hk q0 q1 q2 q3 r0 r1 HB0 HB1 HB2 HB3
  go_wp2_with (fail)
  refine (cn_any g s h1 (by omega) _).mono ?_
  rintro e w2 ⟨rfl, hk⟩
  clear a0 a1 b0 b1 c0 c1 d0 d1 e0 e1 f0 f1 R0 R1
  have q0 := HQ10.out.keeps hk (by simp)
  have q1 := HQ11.out.keeps hk (by simp)
  have q2 := HQ12.out.keeps hk (by simp)
  have q3 := HQ13.out.keeps hk (by simp)
  have HK2 := Lib.hid (HK1.out.trans hk)
  have a0 := q0.cell 0
  have a1 := q0.cell 1
  have b0 := q1.cell 0
  have b1 := q1.cell 1
  have f0 := q1.frozen 0
  have f1 := q1.frozen 1
  have c0 := q2.cell 0
  have c1 := q2.cell 1
  have d0 := q3.cell 0
  have d1 := q3.cell 1
  have e0 := q3.frozen 0
  have e1 := q3.frozen 1
  have r0 := set2_c0 (x := .int .i64 0) (y := .int .i64 0) b0
  have r1 := set2_c1 (x := .int .i64 0) (y := .int .i64 0) b1
  simp only [List.getElem?_toArray, List.getElem?_cons_zero, List.getElem?_cons_succ] at a0 a1 b0 b1 c0 c1 d0 d1
  have HQ20 := Lib.hid q0
  have HQ21 := Lib.hid q1
  have HQ22 := Lib.hid q2
  have HQ23 := Lib.hid q3
  have R0 := Lib.hid r0
  have R1 := Lib.hid r1
  clear hk q0 q1 q2 q3 r0 r1 HQ10 HQ11 HQ12 HQ13
  have HBB := Lib.hid hB
  clear hB
  by_cases hz : g + a = 0
  · have x1 : ((g : Int) + (a : Int) == 0) = true := by simp; omega
    have x2 : ((s : Int) + (b : Int) == 0) = true := by simp; omega
    have r0 := set2_c0 (x := .int .i64 ((g : Int) + (a : Int))) (y := .int .i64 ((s : Int) + (b : Int))) d0
    have r1 := set2_c1 (x := .int .i64 ((g : Int) + (a : Int))) (y := .int .i64 ((s : Int) + (b : Int))) d1
    have X1 := Lib.hid r0
    clear r0 r1
    go_wp2_with (fail)
    simp only [Exit.jump]
    obtain rfl : g = 0 := by omega
    obtain rfl : a = 0 := by omega
    obtain rfl : s = 0 := by omega
    obtain rfl : b = 0 := by omega
    exact bodyPost_ret (v := .tuple #[.agg #[.int .i64 (0 + 0 : Nat), .int .i64 (0 + 0 : Nat)], .int .i64 0]) (by simp [results, Tryz.results65, go_sem, b0, b1]) rfl ⟨rfl, keeps_st2 (keeps_st2 HK2.out (by omega) _ _) (by omega) _ _⟩
  · have x1 : ((g : Int) + (a : Int) == 0) = false := by simp; omega
    clear hz
    go_wp2_with (fail)
    obtain ⟨W3, hW3⟩ : ∃ W3, (w2.setCell ⟨w.heap.size + 1 + 1 + 1, 0, none⟩ (.int .i64 ((g : Int) + (a : Int)))).setCell ⟨w.heap.size + 1 + 1 + 1, 1, none⟩ (.int .i64 ((s : Int) + (b : Int))) = W3 := ⟨_, rfl⟩
    rw [hW3]
    have q1 := (HQ21.out.far (p := ⟨w.heap.size + 1 + 1 + 1, 0, none⟩) (by simp) (.int .i64 ((g : Int) + (a : Int)))).far (p := ⟨w.heap.size + 1 + 1 + 1, 1, none⟩) (by simp) (.int .i64 ((s : Int) + (b : Int)))
    have q2 := (HQ22.out.far (p := ⟨w.heap.size + 1 + 1 + 1, 0, none⟩) (by simp) (.int .i64 ((g : Int) + (a : Int)))).far (p := ⟨w.heap.size + 1 + 1 + 1, 1, none⟩) (by simp) (.int .i64 ((s : Int) + (b : Int)))
    have q3 := (HQ23.out.set_ 0 (.int .i64 ((g : Int) + (a : Int)))).set_ 1 (.int .i64 ((s : Int) + (b : Int)))
    have hk3 := keeps_st2 HK2.out (g := w.heap.size + 1 + 1 + 1) (by omega) (.int .i64 ((g : Int) + (a : Int))) (.int .i64 ((s : Int) + (b : Int)))
    rw [hW3] at q1 q2 q3 hk3
    have HB1 := Lib.hid q1
    have HB2 := Lib.hid q2
    have HB3 := Lib.hid q3
    have HK3 := Lib.hid hk3
    clear hW3 q1 q2 q3 hk3 a0 a1 b0 b1 c0 c1 d0 d1 e0 e1 f0 f1 R0 R1 HQ20 HQ21 HQ22 HQ23
    have hcast1 : ((g + a : Nat) : Int) = (g : Int) + (a : Int) := Int.natCast_add _ _
    have hcast2 : ((s + b : Nat) : Int) = (s : Int) + (b : Int) := Int.natCast_add _ _
    have hr := cRight_any (g + a) (s + b) (by omega) true HBB.out W3
    rw [hcast1, hcast2] at hr
    clear hcast1 hcast2
    refine hr.mono ?_
    clear hr
    rintro e w3 ⟨rfl, hk⟩
    have q1 := HB1.out.keeps hk (by simp)
    have q2 := HB2.out.keeps hk (by simp)
    have q3 := HB3.out.keeps hk (by simp)
    have HK4 := Lib.hid (HK3.out.trans hk)
    have b0 := q1.cell 0
    have b1 := q1.cell 1
    have f0 := q1.frozen 0
    have f1 := q1.frozen 1
    have c0 := q2.cell 0
    have c1 := q2.cell 1
    have d0 := q3.cell 0
    have d1 := q3.cell 1
    simp only [List.getElem?_toArray, List.getElem?_cons_zero, List.getElem?_cons_succ, List.setIfInBounds_toArray, List.set_cons_zero, List.set_cons_succ] at b0 b1 c0 c1 d0 d1
    have r0 := set2_c0 (x := .int .i64 ((g : Int) + (a : Int))) (y := .int .i64 ((s : Int) + (b : Int))) b0
    have r1 := set2_c1 (x := .int .i64 ((g : Int) + (a : Int))) (y := .int .i64 ((s : Int) + (b : Int))) b1
    have R0 := Lib.hid r0
    have R1 := Lib.hid r1
    clear hk q1 q2 q3 HB1 HB2 HB3 r0 r1
    go_wp2_with (fail)
    simp only [Exit.jump]
    have r0 := R0.out
    have r1 := R1.out
    exact bodyPost_ret (v := .tuple #[.agg #[.int .i64 ((g : Int) + (a : Int)), .int .i64 ((s : Int) + (b : Int))], .int .i64 0]) (by simp [results, Tryz.results65, go_sem, r0, r1]) rfl ⟨by first | rfl | simp [Int.natCast_add], keeps_st2 HK4.out (by omega) _ _⟩
set_option maxHeartbeats 2000000 in
/-- It is not right behind that. -/
theorem changed_bad (g s a b : Nat) (h : okC g s = true) (ha : a ≤ 1000000000000) (hb : b ≤ g - s) (hB : okC (g + a) (s + b) = false) (w : World) :
    Calls Tryz.prog 65 #[.agg #[.int .i64 g, .int .i64 s], .int .i64 a, .int .i64 b] w fun e w' => e = .returned (.tuple #[.agg #[.int .i64 (0), .int .i64 (0)], .int .i64 130]) ∧ Keeps [] w w' := by
  obtain ⟨h1, h2, h3⟩ := okC_le h
  have H := Lib.hid h
  clear h
  go_enter Tryz.func65, Tryz.ntmps65
  go_wp2_with (fail)
  refine wp_scope_fwd 0 rfl ?_
  go_wp2_with (fail)
  obtain ⟨W, hW⟩ : ∃ W, (((w.alloc (.cells #[.int .i64 g, .int .i64 s] 104)).alloc (.cells #[.int .i64 0, .int .i64 0] 64)).alloc (.cells #[.int .i64 0, .int .i64 0] 64)).alloc (.cells #[.int .i64 0, .int .i64 0] 64) = W := ⟨_, rfl⟩
  rw [hW]
  obtain ⟨hb0, hb1, hb2, hb3, hK⟩ := ch_blks hW
  have HB0 := Lib.hid hb0
  have HB1 := Lib.hid hb1
  have HB2 := Lib.hid hb2
  have HB3 := Lib.hid hb3
  have HK := Lib.hid hK
  clear hW hb0 hb1 hb2 hb3 hK
  refine (cRight_any g s (by omega) true H.out W).mono ?_
  rintro e w1 ⟨rfl, hk⟩
  have q0 := HB0.out.keeps hk (by simp)
  have q1 := HB1.out.keeps hk (by simp)
  have q2 := HB2.out.keeps hk (by simp)
  have q3 := HB3.out.keeps hk (by simp)
  have HK1 := Lib.hid (HK.out.trans hk)
  have a0 := q0.cell 0
  have a1 := q0.cell 1
  have b0 := q1.cell 0
  have b1 := q1.cell 1
  have f0 := q1.frozen 0
  have f1 := q1.frozen 1
  have c0 := q2.cell 0
  have c1 := q2.cell 1
  have d0 := q3.cell 0
  have d1 := q3.cell 1
  have e0 := q3.frozen 0
  have e1 := q3.frozen 1
  have r0 := set2_c0 (x := .int .i64 0) (y := .int .i64 0) b0
  have r1 := set2_c1 (x := .int .i64 0) (y := .int .i64 0) b1
  simp only [List.getElem?_toArray, List.getElem?_cons_zero, List.getElem?_cons_succ] at a0 a1 b0 b1 c0 c1 d0 d1
  have HQ10 := Lib.hid q0
  have HQ11 := Lib.hid q1
  have HQ12 := Lib.hid q2
  have HQ13 := Lib.hid q3
  have R0 := Lib.hid r0
  have R1 := Lib.hid r1
  clear hk q0 q1 q2 q3 r0 r1 HB0 HB1 HB2 HB3
  go_wp2_with (fail)
  refine (cn_any g s h1 (by omega) _).mono ?_
  rintro e w2 ⟨rfl, hk⟩
  clear a0 a1 b0 b1 c0 c1 d0 d1 e0 e1 f0 f1 R0 R1
  have q0 := HQ10.out.keeps hk (by simp)
  have q1 := HQ11.out.keeps hk (by simp)
  have q2 := HQ12.out.keeps hk (by simp)
  have q3 := HQ13.out.keeps hk (by simp)
  have HK2 := Lib.hid (HK1.out.trans hk)
  have a0 := q0.cell 0
  have a1 := q0.cell 1
  have b0 := q1.cell 0
  have b1 := q1.cell 1
  have f0 := q1.frozen 0
  have f1 := q1.frozen 1
  have c0 := q2.cell 0
  have c1 := q2.cell 1
  have d0 := q3.cell 0
  have d1 := q3.cell 1
  have e0 := q3.frozen 0
  have e1 := q3.frozen 1
  have r0 := set2_c0 (x := .int .i64 0) (y := .int .i64 0) b0
  have r1 := set2_c1 (x := .int .i64 0) (y := .int .i64 0) b1
  simp only [List.getElem?_toArray, List.getElem?_cons_zero, List.getElem?_cons_succ] at a0 a1 b0 b1 c0 c1 d0 d1
  have HQ20 := Lib.hid q0
  have HQ21 := Lib.hid q1
  have HQ22 := Lib.hid q2
  have HQ23 := Lib.hid q3
  have R0 := Lib.hid r0
  have R1 := Lib.hid r1
  clear hk q0 q1 q2 q3 r0 r1 HQ10 HQ11 HQ12 HQ13
  have HBB := Lib.hid hB
  clear hB
  by_cases hz : g + a = 0
  · obtain rfl : g = 0 := by omega
    obtain rfl : a = 0 := by omega
    obtain rfl : s = 0 := by omega
    obtain rfl : b = 0 := by omega
    exact absurd HBB.out (by decide)
  · have x1 : ((g : Int) + (a : Int) == 0) = false := by simp; omega
    clear hz
    go_wp2_with (fail)
    obtain ⟨W3, hW3⟩ : ∃ W3, (w2.setCell ⟨w.heap.size + 1 + 1 + 1, 0, none⟩ (.int .i64 ((g : Int) + (a : Int)))).setCell ⟨w.heap.size + 1 + 1 + 1, 1, none⟩ (.int .i64 ((s : Int) + (b : Int))) = W3 := ⟨_, rfl⟩
    rw [hW3]
    have q1 := (HQ21.out.far (p := ⟨w.heap.size + 1 + 1 + 1, 0, none⟩) (by simp) (.int .i64 ((g : Int) + (a : Int)))).far (p := ⟨w.heap.size + 1 + 1 + 1, 1, none⟩) (by simp) (.int .i64 ((s : Int) + (b : Int)))
    have q2 := (HQ22.out.far (p := ⟨w.heap.size + 1 + 1 + 1, 0, none⟩) (by simp) (.int .i64 ((g : Int) + (a : Int)))).far (p := ⟨w.heap.size + 1 + 1 + 1, 1, none⟩) (by simp) (.int .i64 ((s : Int) + (b : Int)))
    have q3 := (HQ23.out.set_ 0 (.int .i64 ((g : Int) + (a : Int)))).set_ 1 (.int .i64 ((s : Int) + (b : Int)))
    have hk3 := keeps_st2 HK2.out (g := w.heap.size + 1 + 1 + 1) (by omega) (.int .i64 ((g : Int) + (a : Int))) (.int .i64 ((s : Int) + (b : Int)))
    rw [hW3] at q1 q2 q3 hk3
    have HB1 := Lib.hid q1
    have HB2 := Lib.hid q2
    have HB3 := Lib.hid q3
    have HK3 := Lib.hid hk3
    clear hW3 q1 q2 q3 hk3 a0 a1 b0 b1 c0 c1 d0 d1 e0 e1 f0 f1 R0 R1 HQ20 HQ21 HQ22 HQ23
    have hcast1 : ((g + a : Nat) : Int) = (g : Int) + (a : Int) := Int.natCast_add _ _
    have hcast2 : ((s + b : Nat) : Int) = (s : Int) + (b : Int) := Int.natCast_add _ _
    have hr := cRight_any (g + a) (s + b) (by omega) false HBB.out W3
    rw [hcast1, hcast2] at hr
    clear hcast1 hcast2
    refine hr.mono ?_
    clear hr
    rintro e w3 ⟨rfl, hk⟩
    have q1 := HB1.out.keeps hk (by simp)
    have q2 := HB2.out.keeps hk (by simp)
    have q3 := HB3.out.keeps hk (by simp)
    have HK4 := Lib.hid (HK3.out.trans hk)
    have b0 := q1.cell 0
    have b1 := q1.cell 1
    have f0 := q1.frozen 0
    have f1 := q1.frozen 1
    have c0 := q2.cell 0
    have c1 := q2.cell 1
    have d0 := q3.cell 0
    have d1 := q3.cell 1
    simp only [List.getElem?_toArray, List.getElem?_cons_zero, List.getElem?_cons_succ, List.setIfInBounds_toArray, List.set_cons_zero, List.set_cons_succ] at b0 b1 c0 c1 d0 d1
    have r0 := set2_c0 (x := .int .i64 (0)) (y := .int .i64 (0)) b0
    have r1 := set2_c1 (x := .int .i64 (0)) (y := .int .i64 (0)) b1
    have R0 := Lib.hid r0
    have R1 := Lib.hid r1
    clear hk q1 q2 q3 HB1 HB2 HB3 r0 r1
    go_wp2_with (fail)
    simp only [Exit.jump]
    have r0 := R0.out
    have r1 := R1.out
    exact bodyPost_ret (v := .tuple #[.agg #[.int .i64 (0), .int .i64 (0)], .int .i64 130]) (by simp [results, Tryz.results65, go_sem, r0, r1]) rfl ⟨by first | rfl | simp [Int.natCast_add], keeps_st2 HK4.out (by omega) _ _⟩
end Go.Proofs.YtollcbacpoohlaaGreatDoor
