/- The walk of the statements' want: a call of the document's tunnel. Printed by gen_tunRO.py. -/
import Derived.Test.YtollcbacpoohlaaGreatDoorTunRE
import Derived.Test.YtollcbacpoohlaaGreatDoorTunO
namespace Go.Proofs.YtollcbacpoohlaaGreatDoor
open Go.RowKit

theorem RwAt.lt {w : World} {R : RL} {cap : Nat} {y : Wy} (h : RwAt w R cap y) : ∀ k ∈ R.l, k < w.heap.size := by
  intro k hk
  simp only [RL.l, List.mem_cons, List.not_mem_nil, or_false] at hk
  rcases hk with rfl | rfl | rfl
  · exact World.block_lt_of_cell? w _ h.c0
  · exact World.block_lt_of_cell? w _ h.fi.c0
  · exact World.block_lt_of_cell? w _ h.fo.c0
theorem RtAt.lt {w : World} {T : RT} {cap : Nat} {t : Tu} (h : RtAt w T cap t) : ∀ k ∈ T.l, k < w.heap.size := by
  intro k hk
  simp only [RT.l, List.mem_cons, List.mem_append] at hk
  rcases hk with rfl | hk | hk
  · exact World.block_lt_of_cell? w _ h.c0
  · exact h.a.lt k hk
  · exact h.b.lt k hk

/-- The three results are copied out of r into the result's cells. -/
theorem want_end {w W : World} {L : RT} {cap : Nat} {t : Tu} {b : Nat} {u0 u1 u2 : Value} (hb : Blk W b 35 #[u0, u1, u2]) (hK : Keeps L.l w W) (hlt : ∀ k ∈ L.l, k < w.heap.size) (ha : w.heap.size ≤ b) (ht : RtAt W L cap t) (v0 v1 v2 : Value) :
    ((((W.setCell ⟨b, 0, none⟩ v0).setCell ⟨b, 1, none⟩ v1).setCell ⟨b, 2, none⟩ v2).cell? ⟨b, 0, none⟩ = some v0 ∧ (((W.setCell ⟨b, 0, none⟩ v0).setCell ⟨b, 1, none⟩ v1).setCell ⟨b, 2, none⟩ v2).cell? ⟨b, 1, none⟩ = some v1 ∧ (((W.setCell ⟨b, 0, none⟩ v0).setCell ⟨b, 1, none⟩ v1).setCell ⟨b, 2, none⟩ v2).cell? ⟨b, 2, none⟩ = some v2) ∧
    RtAt (((W.setCell ⟨b, 0, none⟩ v0).setCell ⟨b, 1, none⟩ v1).setCell ⟨b, 2, none⟩ v2) L cap t ∧ Keeps L.l w (((W.setCell ⟨b, 0, none⟩ v0).setCell ⟨b, 1, none⟩ v1).setCell ⟨b, 2, none⟩ v2) := by
  have h3 := (blk3_set ((blk3_set ((blk3_set hb).1 v0)).2.1 v1)).2.2 v2
  have hk : Keeps [b] W (((W.setCell ⟨b, 0, none⟩ v0).setCell ⟨b, 1, none⟩ v1).setCell ⟨b, 2, none⟩ v2) :=
    (((Keeps.refl [b] W).setCell (p := ⟨b, 0, none⟩) (.inl (by simp)) _).setCell (p := ⟨b, 1, none⟩) (.inl (by simp)) _).setCell (p := ⟨b, 2, none⟩) (.inl (by simp)) _
  refine ⟨⟨h3.cell 0, h3.cell 1, h3.cell 2⟩, ht.keeps hk (fun k hk hm => by simp only [List.mem_singleton] at hm; have := hlt k hk; omega), hK.trans' hk (fun i hi => .inr (by simp only [List.mem_singleton] at hi; omega))⟩

set_option maxRecDepth 100000 in
set_option maxHeartbeats 2000000 in
theorem want_0 (L : RT) (cap : Nat) (t t' : Tu) (side n : Int) (s : ByteArray) (r : Int) (hr : t.event n = (r, t')) (w : World) (h : RtAt w L cap t) :
    Calls Tryz.prog 12 #[.pointer (some ⟨L.b, 0, none⟩), .agg #[.int .i64 0, .int .i64 side, .int .i64 n, .string s]] w fun e w' => e = .returned (.agg #[.int .i64 0, .string ⟨#[]⟩, .int .i64 r]) ∧ RtAt w' L cap t' ∧ Keeps L.l w w' := by
  obtain ⟨W0, hW0⟩ : ∃ W0, ((w.alloc (.cells #[.int .i64 0, .int .i64 side, .int .i64 n, .string s] 38)).alloc (.cells #[.int .i64 0, .string ⟨#[]⟩, .int .i64 0] 35)).alloc (.cells #[.int .i64 0, .string ⟨#[]⟩, .int .i64 0] 35) = W0 := ⟨_, rfl⟩
  have b1 : Blk W0 (w.heap.size + 1) 35 #[.int .i64 0, .string ⟨#[]⟩, .int .i64 0] := by rw [← hW0]; exact (Blk.new2 _ _ _ _ (by simp)).alloc _
  have b2 : Blk W0 (w.heap.size + 1 + 1) 35 #[.int .i64 0, .string ⟨#[]⟩, .int .i64 0] := by rw [← hW0]; exact Blk.new2 _ _ _ _ (by simp)
  have hK0 : Keeps [] w W0 := by rw [← hW0]; exact (((Keeps.refl [] w).alloc _).alloc _).alloc _
  have hc := vEvent_any L cap t t' n r hr W0 (h.keep hK0)
  have HC := Lib.hid hc
  have HB1 := Lib.hid b1
  have HB2 := Lib.hid b2
  have HK0 := Lib.hid hK0
  have HW0 := Lib.hid hW0
  have HLT := Lib.hid h.lt
  clear hW0 b1 b2 hK0 h hc hr
  go_enter Tryz.func12, Tryz.ntmps12
  go_wp2_with (fail)
  rw [HW0.out]
  refine HC.out.mono ?_
  rintro e w1 ⟨rfl, ht, hk⟩
  have q1 := HB1.out.keeps hk (fun hm => by have := HLT.out _ hm; omega)
  have q2 := HB2.out.keeps hk (fun hm => by have := HLT.out _ hm; omega)
  have g0 := q2.cell 0
  have g1 := q2.cell 1
  have g2 := q2.cell 2
  have gf0 := q2.frozen 0
  have gf1 := q2.frozen 1
  have gf2 := q2.frozen 2
  have q2' := ((blk3_set q2).2.2 (.int .i64 r))
  have hk2 : Keeps [w.heap.size + 1 + 1] w1 (w1.setCell ⟨w.heap.size + 1 + 1, 2, none⟩ (.int .i64 r)) := ((Keeps.refl [w.heap.size + 1 + 1] w1).setCell (p := ⟨w.heap.size + 1 + 1, 2, none⟩) (.inl (by simp)) _)
  have q1' := q1.keeps hk2 (by simp)
  have ht' := ht.keeps hk2 (fun k hk hm => by simp only [List.mem_singleton] at hm; have := HLT.out k hk; omega)
  have hkk := (HK0.out.mono (S' := L.l) (by simp)).trans hk |>.trans' hk2 (fun i hi => .inr (by simp only [List.mem_singleton] at hi; omega))
  have z0 := q2'.cell 0
  have z1 := q2'.cell 1
  have z2 := q2'.cell 2
  have y0 := q1'.cell 0
  have y1 := q1'.cell 1
  have y2 := q1'.cell 2
  have f0 := q1'.frozen 0
  have f1 := q1'.frozen 1
  have f2 := q1'.frozen 2
  have HEND := Lib.hid (want_end q1' hkk HLT.out (by omega) ht' (.int .i64 0) (.string ⟨#[]⟩) (.int .i64 r))
  simp only [List.getElem?_toArray, List.getElem?_cons_zero, List.getElem?_cons_succ] at g0 g1 g2 z0 z1 z2 y0 y1 y2
  clear hk q1 q2 ht q2' hk2 q1' ht' hkk HC HB1 HB2 HK0 HW0
  go_wp2_with (fail)
  obtain ⟨⟨r0, r1, r2⟩, r3, r4⟩ := HEND.out
  exact bodyPost_ret (v := .agg #[.int .i64 0, .string ⟨#[]⟩, .int .i64 r]) (by simp [results, Tryz.results12, go_sem, r0, r1, r2]) rfl ⟨rfl, r3, r4⟩

set_option maxRecDepth 100000 in
set_option maxHeartbeats 2000000 in
theorem want_1 (L : RT) (cap : Nat) (t t' : Tu) (side n : Int) (s : ByteArray) (r : Int) (hr : t.grant side n = (r, t')) (w : World) (h : RtAt w L cap t) :
    Calls Tryz.prog 12 #[.pointer (some ⟨L.b, 0, none⟩), .agg #[.int .i64 1, .int .i64 side, .int .i64 n, .string s]] w fun e w' => e = .returned (.agg #[.int .i64 0, .string ⟨#[]⟩, .int .i64 r]) ∧ RtAt w' L cap t' ∧ Keeps L.l w w' := by
  obtain ⟨W0, hW0⟩ : ∃ W0, ((w.alloc (.cells #[.int .i64 1, .int .i64 side, .int .i64 n, .string s] 38)).alloc (.cells #[.int .i64 0, .string ⟨#[]⟩, .int .i64 0] 35)).alloc (.cells #[.int .i64 0, .string ⟨#[]⟩, .int .i64 0] 35) = W0 := ⟨_, rfl⟩
  have b1 : Blk W0 (w.heap.size + 1) 35 #[.int .i64 0, .string ⟨#[]⟩, .int .i64 0] := by rw [← hW0]; exact (Blk.new2 _ _ _ _ (by simp)).alloc _
  have b2 : Blk W0 (w.heap.size + 1 + 1) 35 #[.int .i64 0, .string ⟨#[]⟩, .int .i64 0] := by rw [← hW0]; exact Blk.new2 _ _ _ _ (by simp)
  have hK0 : Keeps [] w W0 := by rw [← hW0]; exact (((Keeps.refl [] w).alloc _).alloc _).alloc _
  have hc := vGrant_ok L cap t t' side n r hr W0 (h.keep hK0)
  have HC := Lib.hid hc
  have HB1 := Lib.hid b1
  have HB2 := Lib.hid b2
  have HK0 := Lib.hid hK0
  have HW0 := Lib.hid hW0
  have HLT := Lib.hid h.lt
  clear hW0 b1 b2 hK0 h hc hr
  go_enter Tryz.func12, Tryz.ntmps12
  go_wp2_with (fail)
  rw [HW0.out]
  refine HC.out.mono ?_
  rintro e w1 ⟨rfl, ht, hk⟩
  have q1 := HB1.out.keeps hk (fun hm => by have := HLT.out _ hm; omega)
  have q2 := HB2.out.keeps hk (fun hm => by have := HLT.out _ hm; omega)
  have g0 := q2.cell 0
  have g1 := q2.cell 1
  have g2 := q2.cell 2
  have gf0 := q2.frozen 0
  have gf1 := q2.frozen 1
  have gf2 := q2.frozen 2
  have q2' := ((blk3_set q2).2.2 (.int .i64 r))
  have hk2 : Keeps [w.heap.size + 1 + 1] w1 (w1.setCell ⟨w.heap.size + 1 + 1, 2, none⟩ (.int .i64 r)) := ((Keeps.refl [w.heap.size + 1 + 1] w1).setCell (p := ⟨w.heap.size + 1 + 1, 2, none⟩) (.inl (by simp)) _)
  have q1' := q1.keeps hk2 (by simp)
  have ht' := ht.keeps hk2 (fun k hk hm => by simp only [List.mem_singleton] at hm; have := HLT.out k hk; omega)
  have hkk := (HK0.out.mono (S' := L.l) (by simp)).trans hk |>.trans' hk2 (fun i hi => .inr (by simp only [List.mem_singleton] at hi; omega))
  have z0 := q2'.cell 0
  have z1 := q2'.cell 1
  have z2 := q2'.cell 2
  have y0 := q1'.cell 0
  have y1 := q1'.cell 1
  have y2 := q1'.cell 2
  have f0 := q1'.frozen 0
  have f1 := q1'.frozen 1
  have f2 := q1'.frozen 2
  have HEND := Lib.hid (want_end q1' hkk HLT.out (by omega) ht' (.int .i64 0) (.string ⟨#[]⟩) (.int .i64 r))
  simp only [List.getElem?_toArray, List.getElem?_cons_zero, List.getElem?_cons_succ] at g0 g1 g2 z0 z1 z2 y0 y1 y2
  clear hk q1 q2 ht q2' hk2 q1' ht' hkk HC HB1 HB2 HK0 HW0
  go_wp2_with (fail)
  obtain ⟨⟨r0, r1, r2⟩, r3, r4⟩ := HEND.out
  exact bodyPost_ret (v := .agg #[.int .i64 0, .string ⟨#[]⟩, .int .i64 r]) (by simp [results, Tryz.results12, go_sem, r0, r1, r2]) rfl ⟨rfl, r3, r4⟩

set_option maxRecDepth 100000 in
set_option maxHeartbeats 2000000 in
theorem want_2 (L : RT) (cap : Nat) (t t' : Tu) (side n : Int) (s : ByteArray) (hsz : s.size ≤ 1000000) (k : Nat) (r : Int) (hr : t.feed cap side s.data.toList = (k, r, t')) (w : World) (h : RtAt w L cap t) :
    Calls Tryz.prog 12 #[.pointer (some ⟨L.b, 0, none⟩), .agg #[.int .i64 2, .int .i64 side, .int .i64 n, .string s]] w fun e w' => e = .returned (.agg #[.int .i64 k, .string ⟨#[]⟩, .int .i64 r]) ∧ RtAt w' L cap t' ∧ Keeps L.l w w' := by
  obtain ⟨W0, hW0⟩ : ∃ W0, ((w.alloc (.cells #[.int .i64 2, .int .i64 side, .int .i64 n, .string s] 38)).alloc (.cells #[.int .i64 0, .string ⟨#[]⟩, .int .i64 0] 35)).alloc (.cells #[.int .i64 0, .string ⟨#[]⟩, .int .i64 0] 35) = W0 := ⟨_, rfl⟩
  have b1 : Blk W0 (w.heap.size + 1) 35 #[.int .i64 0, .string ⟨#[]⟩, .int .i64 0] := by rw [← hW0]; exact (Blk.new2 _ _ _ _ (by simp)).alloc _
  have b2 : Blk W0 (w.heap.size + 1 + 1) 35 #[.int .i64 0, .string ⟨#[]⟩, .int .i64 0] := by rw [← hW0]; exact Blk.new2 _ _ _ _ (by simp)
  have hK0 : Keeps [] w W0 := by rw [← hW0]; exact (((Keeps.refl [] w).alloc _).alloc _).alloc _
  have hc := vFeed_ok L cap t t' side s hsz k r hr W0 (h.keep hK0)
  have HC := Lib.hid hc
  have HB1 := Lib.hid b1
  have HB2 := Lib.hid b2
  have HK0 := Lib.hid hK0
  have HW0 := Lib.hid hW0
  have HLT := Lib.hid h.lt
  clear hW0 b1 b2 hK0 h hc hr hsz
  go_enter Tryz.func12, Tryz.ntmps12
  go_wp2_with (fail)
  rw [HW0.out]
  refine HC.out.mono ?_
  rintro e w1 ⟨rfl, ht, hk⟩
  have q1 := HB1.out.keeps hk (fun hm => by have := HLT.out _ hm; omega)
  have q2 := HB2.out.keeps hk (fun hm => by have := HLT.out _ hm; omega)
  have g0 := q2.cell 0
  have g1 := q2.cell 1
  have g2 := q2.cell 2
  have gf0 := q2.frozen 0
  have gf1 := q2.frozen 1
  have gf2 := q2.frozen 2
  have q2' := ((blk3_set ((blk3_set q2).1 (.int .i64 k))).2.2 (.int .i64 r))
  have hk2 : Keeps [w.heap.size + 1 + 1] w1 ((w1.setCell ⟨w.heap.size + 1 + 1, 0, none⟩ (.int .i64 k)).setCell ⟨w.heap.size + 1 + 1, 2, none⟩ (.int .i64 r)) := (((Keeps.refl [w.heap.size + 1 + 1] w1).setCell (p := ⟨w.heap.size + 1 + 1, 0, none⟩) (.inl (by simp)) _).setCell (p := ⟨w.heap.size + 1 + 1, 2, none⟩) (.inl (by simp)) _)
  have q1' := q1.keeps hk2 (by simp)
  have ht' := ht.keeps hk2 (fun k hk hm => by simp only [List.mem_singleton] at hm; have := HLT.out k hk; omega)
  have hkk := (HK0.out.mono (S' := L.l) (by simp)).trans hk |>.trans' hk2 (fun i hi => .inr (by simp only [List.mem_singleton] at hi; omega))
  have z0 := q2'.cell 0
  have z1 := q2'.cell 1
  have z2 := q2'.cell 2
  have y0 := q1'.cell 0
  have y1 := q1'.cell 1
  have y2 := q1'.cell 2
  have f0 := q1'.frozen 0
  have f1 := q1'.frozen 1
  have f2 := q1'.frozen 2
  have HEND := Lib.hid (want_end q1' hkk HLT.out (by omega) ht' (.int .i64 k) (.string ⟨#[]⟩) (.int .i64 r))
  simp only [List.getElem?_toArray, List.getElem?_cons_zero, List.getElem?_cons_succ] at g0 g1 g2 z0 z1 z2 y0 y1 y2
  clear hk q1 q2 ht q2' hk2 q1' ht' hkk HC HB1 HB2 HK0 HW0
  go_wp2_with (fail)
  obtain ⟨⟨r0, r1, r2⟩, r3, r4⟩ := HEND.out
  exact bodyPost_ret (v := .agg #[.int .i64 k, .string ⟨#[]⟩, .int .i64 r]) (by simp [results, Tryz.results12, go_sem, r0, r1, r2]) rfl ⟨rfl, r3, r4⟩

set_option maxRecDepth 100000 in
set_option maxHeartbeats 2000000 in
theorem want_3 (L : RT) (cap : Nat) (t t' : Tu) (side n : Int) (s : ByteArray) (k : Nat) (r : Int) (hr : t.move cap side n = (k, r, t')) (w : World) (h : RtAt w L cap t) :
    Calls Tryz.prog 12 #[.pointer (some ⟨L.b, 0, none⟩), .agg #[.int .i64 3, .int .i64 side, .int .i64 n, .string s]] w fun e w' => e = .returned (.agg #[.int .i64 k, .string ⟨#[]⟩, .int .i64 r]) ∧ RtAt w' L cap t' ∧ Keeps L.l w w' := by
  obtain ⟨W0, hW0⟩ : ∃ W0, ((w.alloc (.cells #[.int .i64 3, .int .i64 side, .int .i64 n, .string s] 38)).alloc (.cells #[.int .i64 0, .string ⟨#[]⟩, .int .i64 0] 35)).alloc (.cells #[.int .i64 0, .string ⟨#[]⟩, .int .i64 0] 35) = W0 := ⟨_, rfl⟩
  have b1 : Blk W0 (w.heap.size + 1) 35 #[.int .i64 0, .string ⟨#[]⟩, .int .i64 0] := by rw [← hW0]; exact (Blk.new2 _ _ _ _ (by simp)).alloc _
  have b2 : Blk W0 (w.heap.size + 1 + 1) 35 #[.int .i64 0, .string ⟨#[]⟩, .int .i64 0] := by rw [← hW0]; exact Blk.new2 _ _ _ _ (by simp)
  have hK0 : Keeps [] w W0 := by rw [← hW0]; exact (((Keeps.refl [] w).alloc _).alloc _).alloc _
  have hc := vMove_ok L cap t t' side n k r hr W0 (h.keep hK0)
  have HC := Lib.hid hc
  have HB1 := Lib.hid b1
  have HB2 := Lib.hid b2
  have HK0 := Lib.hid hK0
  have HW0 := Lib.hid hW0
  have HLT := Lib.hid h.lt
  clear hW0 b1 b2 hK0 h hc hr
  go_enter Tryz.func12, Tryz.ntmps12
  go_wp2_with (fail)
  rw [HW0.out]
  refine HC.out.mono ?_
  rintro e w1 ⟨rfl, ht, hk⟩
  have q1 := HB1.out.keeps hk (fun hm => by have := HLT.out _ hm; omega)
  have q2 := HB2.out.keeps hk (fun hm => by have := HLT.out _ hm; omega)
  have g0 := q2.cell 0
  have g1 := q2.cell 1
  have g2 := q2.cell 2
  have gf0 := q2.frozen 0
  have gf1 := q2.frozen 1
  have gf2 := q2.frozen 2
  have q2' := ((blk3_set ((blk3_set q2).1 (.int .i64 k))).2.2 (.int .i64 r))
  have hk2 : Keeps [w.heap.size + 1 + 1] w1 ((w1.setCell ⟨w.heap.size + 1 + 1, 0, none⟩ (.int .i64 k)).setCell ⟨w.heap.size + 1 + 1, 2, none⟩ (.int .i64 r)) := (((Keeps.refl [w.heap.size + 1 + 1] w1).setCell (p := ⟨w.heap.size + 1 + 1, 0, none⟩) (.inl (by simp)) _).setCell (p := ⟨w.heap.size + 1 + 1, 2, none⟩) (.inl (by simp)) _)
  have q1' := q1.keeps hk2 (by simp)
  have ht' := ht.keeps hk2 (fun k hk hm => by simp only [List.mem_singleton] at hm; have := HLT.out k hk; omega)
  have hkk := (HK0.out.mono (S' := L.l) (by simp)).trans hk |>.trans' hk2 (fun i hi => .inr (by simp only [List.mem_singleton] at hi; omega))
  have z0 := q2'.cell 0
  have z1 := q2'.cell 1
  have z2 := q2'.cell 2
  have y0 := q1'.cell 0
  have y1 := q1'.cell 1
  have y2 := q1'.cell 2
  have f0 := q1'.frozen 0
  have f1 := q1'.frozen 1
  have f2 := q1'.frozen 2
  have HEND := Lib.hid (want_end q1' hkk HLT.out (by omega) ht' (.int .i64 k) (.string ⟨#[]⟩) (.int .i64 r))
  simp only [List.getElem?_toArray, List.getElem?_cons_zero, List.getElem?_cons_succ] at g0 g1 g2 z0 z1 z2 y0 y1 y2
  clear hk q1 q2 ht q2' hk2 q1' ht' hkk HC HB1 HB2 HK0 HW0
  go_wp2_with (fail)
  obtain ⟨⟨r0, r1, r2⟩, r3, r4⟩ := HEND.out
  exact bodyPost_ret (v := .agg #[.int .i64 k, .string ⟨#[]⟩, .int .i64 r]) (by simp [results, Tryz.results12, go_sem, r0, r1, r2]) rfl ⟨rfl, r3, r4⟩

set_option maxRecDepth 100000 in
set_option maxHeartbeats 2000000 in
theorem want_4 (L : RT) (cap : Nat) (t t' : Tu) (side n : Int) (s : ByteArray) (q : List UInt8) (qs : ByteArray) (hqs : str q = qs) (r : Int) (hr : t.drain side n = (q, r, t')) (w : World) (h : RtAt w L cap t) :
    Calls Tryz.prog 12 #[.pointer (some ⟨L.b, 0, none⟩), .agg #[.int .i64 4, .int .i64 side, .int .i64 n, .string s]] w fun e w' => e = .returned (.agg #[.int .i64 0, .string qs, .int .i64 r]) ∧ RtAt w' L cap t' ∧ Keeps L.l w w' := by
  obtain ⟨W0, hW0⟩ : ∃ W0, ((w.alloc (.cells #[.int .i64 4, .int .i64 side, .int .i64 n, .string s] 38)).alloc (.cells #[.int .i64 0, .string ⟨#[]⟩, .int .i64 0] 35)).alloc (.cells #[.int .i64 0, .string ⟨#[]⟩, .int .i64 0] 35) = W0 := ⟨_, rfl⟩
  have b1 : Blk W0 (w.heap.size + 1) 35 #[.int .i64 0, .string ⟨#[]⟩, .int .i64 0] := by rw [← hW0]; exact (Blk.new2 _ _ _ _ (by simp)).alloc _
  have b2 : Blk W0 (w.heap.size + 1 + 1) 35 #[.int .i64 0, .string ⟨#[]⟩, .int .i64 0] := by rw [← hW0]; exact Blk.new2 _ _ _ _ (by simp)
  have hK0 : Keeps [] w W0 := by rw [← hW0]; exact (((Keeps.refl [] w).alloc _).alloc _).alloc _
  have hc := hqs ▸ vDrain_ok L cap t t' side n q r hr W0 (h.keep hK0)
  have HC := Lib.hid hc
  have HB1 := Lib.hid b1
  have HB2 := Lib.hid b2
  have HK0 := Lib.hid hK0
  have HW0 := Lib.hid hW0
  have HLT := Lib.hid h.lt
  clear hW0 b1 b2 hK0 h hc hr hqs
  go_enter Tryz.func12, Tryz.ntmps12
  go_wp2_with (fail)
  rw [HW0.out]
  refine HC.out.mono ?_
  rintro e w1 ⟨rfl, ht, hk⟩
  have q1 := HB1.out.keeps hk (fun hm => by have := HLT.out _ hm; omega)
  have q2 := HB2.out.keeps hk (fun hm => by have := HLT.out _ hm; omega)
  have g0 := q2.cell 0
  have g1 := q2.cell 1
  have g2 := q2.cell 2
  have gf0 := q2.frozen 0
  have gf1 := q2.frozen 1
  have gf2 := q2.frozen 2
  have q2' := ((blk3_set ((blk3_set q2).2.1 (.string qs))).2.2 (.int .i64 r))
  have hk2 : Keeps [w.heap.size + 1 + 1] w1 ((w1.setCell ⟨w.heap.size + 1 + 1, 1, none⟩ (.string qs)).setCell ⟨w.heap.size + 1 + 1, 2, none⟩ (.int .i64 r)) := (((Keeps.refl [w.heap.size + 1 + 1] w1).setCell (p := ⟨w.heap.size + 1 + 1, 1, none⟩) (.inl (by simp)) _).setCell (p := ⟨w.heap.size + 1 + 1, 2, none⟩) (.inl (by simp)) _)
  have q1' := q1.keeps hk2 (by simp)
  have ht' := ht.keeps hk2 (fun k hk hm => by simp only [List.mem_singleton] at hm; have := HLT.out k hk; omega)
  have hkk := (HK0.out.mono (S' := L.l) (by simp)).trans hk |>.trans' hk2 (fun i hi => .inr (by simp only [List.mem_singleton] at hi; omega))
  have z0 := q2'.cell 0
  have z1 := q2'.cell 1
  have z2 := q2'.cell 2
  have y0 := q1'.cell 0
  have y1 := q1'.cell 1
  have y2 := q1'.cell 2
  have f0 := q1'.frozen 0
  have f1 := q1'.frozen 1
  have f2 := q1'.frozen 2
  have HEND := Lib.hid (want_end q1' hkk HLT.out (by omega) ht' (.int .i64 0) (.string qs) (.int .i64 r))
  simp only [List.getElem?_toArray, List.getElem?_cons_zero, List.getElem?_cons_succ] at g0 g1 g2 z0 z1 z2 y0 y1 y2
  clear hk q1 q2 ht q2' hk2 q1' ht' hkk HC HB1 HB2 HK0 HW0
  go_wp2_with (fail)
  obtain ⟨⟨r0, r1, r2⟩, r3, r4⟩ := HEND.out
  exact bodyPost_ret (v := .agg #[.int .i64 0, .string qs, .int .i64 r]) (by simp [results, Tryz.results12, go_sem, r0, r1, r2]) rfl ⟨rfl, r3, r4⟩

set_option maxRecDepth 100000 in
set_option maxHeartbeats 2000000 in
theorem want_5 (L : RT) (cap : Nat) (t t' : Tu) (side n : Int) (s : ByteArray) (k : Nat) (hr : t.stop = (k, t')) (w : World) (h : RtAt w L cap t) :
    Calls Tryz.prog 12 #[.pointer (some ⟨L.b, 0, none⟩), .agg #[.int .i64 5, .int .i64 side, .int .i64 n, .string s]] w fun e w' => e = .returned (.agg #[.int .i64 k, .string ⟨#[]⟩, .int .i64 0]) ∧ RtAt w' L cap t' ∧ Keeps L.l w w' := by
  obtain ⟨W0, hW0⟩ : ∃ W0, ((w.alloc (.cells #[.int .i64 5, .int .i64 side, .int .i64 n, .string s] 38)).alloc (.cells #[.int .i64 0, .string ⟨#[]⟩, .int .i64 0] 35)).alloc (.cells #[.int .i64 0, .string ⟨#[]⟩, .int .i64 0] 35) = W0 := ⟨_, rfl⟩
  have b1 : Blk W0 (w.heap.size + 1) 35 #[.int .i64 0, .string ⟨#[]⟩, .int .i64 0] := by rw [← hW0]; exact (Blk.new2 _ _ _ _ (by simp)).alloc _
  have b2 : Blk W0 (w.heap.size + 1 + 1) 35 #[.int .i64 0, .string ⟨#[]⟩, .int .i64 0] := by rw [← hW0]; exact Blk.new2 _ _ _ _ (by simp)
  have hK0 : Keeps [] w W0 := by rw [← hW0]; exact (((Keeps.refl [] w).alloc _).alloc _).alloc _
  have hc := vStop_any L cap t t' k hr W0 (h.keep hK0)
  have HC := Lib.hid hc
  have HB1 := Lib.hid b1
  have HB2 := Lib.hid b2
  have HK0 := Lib.hid hK0
  have HW0 := Lib.hid hW0
  have HLT := Lib.hid h.lt
  clear hW0 b1 b2 hK0 h hc hr
  go_enter Tryz.func12, Tryz.ntmps12
  go_wp2_with (fail)
  rw [HW0.out]
  refine HC.out.mono ?_
  rintro e w1 ⟨rfl, ht, hk⟩
  have q1 := HB1.out.keeps hk (fun hm => by have := HLT.out _ hm; omega)
  have q2 := HB2.out.keeps hk (fun hm => by have := HLT.out _ hm; omega)
  have g0 := q2.cell 0
  have g1 := q2.cell 1
  have g2 := q2.cell 2
  have gf0 := q2.frozen 0
  have gf1 := q2.frozen 1
  have gf2 := q2.frozen 2
  have q2' := ((blk3_set q2).1 (.int .i64 k))
  have hk2 : Keeps [w.heap.size + 1 + 1] w1 (w1.setCell ⟨w.heap.size + 1 + 1, 0, none⟩ (.int .i64 k)) := ((Keeps.refl [w.heap.size + 1 + 1] w1).setCell (p := ⟨w.heap.size + 1 + 1, 0, none⟩) (.inl (by simp)) _)
  have q1' := q1.keeps hk2 (by simp)
  have ht' := ht.keeps hk2 (fun k hk hm => by simp only [List.mem_singleton] at hm; have := HLT.out k hk; omega)
  have hkk := (HK0.out.mono (S' := L.l) (by simp)).trans hk |>.trans' hk2 (fun i hi => .inr (by simp only [List.mem_singleton] at hi; omega))
  have z0 := q2'.cell 0
  have z1 := q2'.cell 1
  have z2 := q2'.cell 2
  have y0 := q1'.cell 0
  have y1 := q1'.cell 1
  have y2 := q1'.cell 2
  have f0 := q1'.frozen 0
  have f1 := q1'.frozen 1
  have f2 := q1'.frozen 2
  have HEND := Lib.hid (want_end q1' hkk HLT.out (by omega) ht' (.int .i64 k) (.string ⟨#[]⟩) (.int .i64 0))
  simp only [List.getElem?_toArray, List.getElem?_cons_zero, List.getElem?_cons_succ] at g0 g1 g2 z0 z1 z2 y0 y1 y2
  clear hk q1 q2 ht q2' hk2 q1' ht' hkk HC HB1 HB2 HK0 HW0
  go_wp2_with (fail)
  obtain ⟨⟨r0, r1, r2⟩, r3, r4⟩ := HEND.out
  exact bodyPost_ret (v := .agg #[.int .i64 k, .string ⟨#[]⟩, .int .i64 0]) (by simp [results, Tryz.results12, go_sem, r0, r1, r2]) rfl ⟨rfl, r3, r4⟩

set_option maxHeartbeats 2000000 in
theorem want_none (L : RT) (cap : Nat) (t : Tu) (k side n : Int) (s : ByteArray) (hk : k < 0 ∨ 5 < k) (w : World) (h : RtAt w L cap t) :
    Calls Tryz.prog 12 #[.pointer (some ⟨L.b, 0, none⟩), .agg #[.int .i64 k, .int .i64 side, .int .i64 n, .string s]] w fun e w' => e = .returned (.agg #[.int .i64 0, .string ⟨#[]⟩, .int .i64 0]) ∧ RtAt w' L cap t ∧ Keeps L.l w w' := by
  have e0 : (k == 0) = false := by simp; omega
  have e1 : (k == 1) = false := by simp; omega
  have e2 : (k == 2) = false := by simp; omega
  have e3 : (k == 3) = false := by simp; omega
  have e4 : (k == 4) = false := by simp; omega
  have e5 : (k == 5) = false := by simp; omega
  have H := Lib.hid h
  clear h hk
  go_enter Tryz.func12, Tryz.ntmps12
  go_wp2
  have hK : Keeps [] w (((w.alloc (.cells #[.int .i64 k, .int .i64 side, .int .i64 n, .string s] 38)).alloc (.cells #[.int .i64 0, .string ⟨#[]⟩, .int .i64 0] 35)).alloc (.cells #[.int .i64 0, .string ⟨#[]⟩, .int .i64 0] 35)) := (((Keeps.refl [] w).alloc _).alloc _).alloc _
  exact bodyPost_ret (v := .agg #[.int .i64 0, .string ⟨#[]⟩, .int .i64 0]) (by simp [results, Tryz.results12, go_sem]) rfl ⟨rfl, H.out.keep hK, hK.mono (by simp)⟩

theorem want_any (L : RT) (cap : Nat) (t t' : Tu) (x : Op1) (hsz : x.s.size ≤ 1000000) (k : Nat) (q : List UInt8) (r : Int) (hr : t.act cap x = ((k, q, r), t')) (w : World) (h : RtAt w L cap t) :
    Calls Tryz.prog 12 #[.pointer (some ⟨L.b, 0, none⟩), .agg #[.int .i64 x.kind, .int .i64 x.side, .int .i64 x.n, .string x.s]] w fun e w' => e = .returned (.agg #[.int .i64 k, .string (str q), .int .i64 r]) ∧ RtAt w' L cap t' ∧ Keeps L.l w w' := by
  obtain ⟨kd, side, n, s⟩ := x
  unfold Tu.act at hr
  dsimp only at hr hsz ⊢
  by_cases h0 : kd = 0
  · subst h0
    rw [if_pos rfl] at hr
    obtain ⟨⟨rfl, rfl, rfl⟩, rfl⟩ := act_eq hr
    exact want_0 L cap t _ side n s _ rfl w h
  rw [if_neg h0] at hr
  by_cases h1 : kd = 1
  · subst h1
    rw [if_pos rfl] at hr
    obtain ⟨⟨rfl, rfl, rfl⟩, rfl⟩ := act_eq hr
    exact want_1 L cap t _ side n s _ rfl w h
  rw [if_neg h1] at hr
  by_cases h2 : kd = 2
  · subst h2
    rw [if_pos rfl] at hr
    obtain ⟨⟨rfl, rfl, rfl⟩, rfl⟩ := act_eq hr
    exact want_2 L cap t _ side n s hsz _ _ rfl w h
  rw [if_neg h2] at hr
  by_cases h3 : kd = 3
  · subst h3
    rw [if_pos rfl] at hr
    obtain ⟨⟨rfl, rfl, rfl⟩, rfl⟩ := act_eq hr
    exact want_3 L cap t _ side n s _ _ rfl w h
  rw [if_neg h3] at hr
  by_cases h4 : kd = 4
  · subst h4
    rw [if_pos rfl] at hr
    obtain ⟨⟨rfl, rfl, rfl⟩, rfl⟩ := act_eq hr
    exact want_4 L cap t _ side n s _ _ rfl _ rfl w h
  rw [if_neg h4] at hr
  by_cases h5 : kd = 5
  · subst h5
    rw [if_pos rfl] at hr
    obtain ⟨⟨rfl, rfl, rfl⟩, rfl⟩ := act_eq hr
    exact want_5 L cap t _ side n s _ rfl w h
  rw [if_neg h5] at hr
  obtain ⟨⟨rfl, rfl, rfl⟩, rfl⟩ := act_eq hr
  exact want_none L cap t kd side n s (by omega) w h

end Go.Proofs.YtollcbacpoohlaaGreatDoor
