/- The walk of the statements' do: a tunnel's call. Printed by gen_tunO.py. -/
import Derived.Test.YtollcbacpoohlaaGreatDoorTunN
import Derived.Test.YtollcbacpoohlaaGreatDoorOps17
namespace Go.Proofs.YtollcbacpoohlaaGreatDoor
open Go.RowKit

/-- A call's answer (number, text, error), and the tunnel behind it. -/
def Tu.act (cap : Nat) (t : Tu) (x : Op1) : (Nat × List UInt8 × Int) × Tu :=
  if x.kind = 0 then ((0, [], (t.event x.n).1), (t.event x.n).2)
  else if x.kind = 1 then ((0, [], (t.grant x.side x.n).1), (t.grant x.side x.n).2)
  else if x.kind = 2 then (((t.feed cap x.side x.s.data.toList).1, [], (t.feed cap x.side x.s.data.toList).2.1), (t.feed cap x.side x.s.data.toList).2.2)
  else if x.kind = 3 then (((t.move cap x.side x.n).1, [], (t.move cap x.side x.n).2.1), (t.move cap x.side x.n).2.2)
  else if x.kind = 4 then ((0, (t.drain x.side x.n).1, (t.drain x.side x.n).2.1), (t.drain x.side x.n).2.2)
  else if x.kind = 5 then ((t.stop.1, [], 0), t.stop.2)
  else ((0, [], 0), t)

theorem act_eq {a a' : Nat} {b b' : List UInt8} {c c' : Int} {t t' : Tu} (h : ((a, b, c), t) = ((a', b', c'), t')) : (a = a' ∧ b = b' ∧ c = c') ∧ t = t' := by simpa using h

theorem blk3_set {w : World} {b : Nat} {t : TypeId} {v0 v1 v2 : Value} (h : Blk w b t #[v0, v1, v2]) :
    (∀ x, Blk (w.setCell ⟨b, 0, none⟩ x) b t #[x, v1, v2]) ∧ (∀ x, Blk (w.setCell ⟨b, 1, none⟩ x) b t #[v0, x, v2]) ∧ (∀ x, Blk (w.setCell ⟨b, 2, none⟩ x) b t #[v0, v1, x]) :=
  ⟨fun x => by simpa using h.set_ 0 x, fun x => by simpa using h.set_ 1 x, fun x => by simpa using h.set_ 2 x⟩

/-- The three results are copied out of r into the result's cells. -/
theorem do_end {w W : World} {L : TL} {cap : Nat} {t : Tu} {b : Nat} {u0 u1 u2 : Value} (hb : Blk W b 35 #[u0, u1, u2]) (hK : Keeps L.l w W) (hlt : ∀ k ∈ L.l, k < w.heap.size) (ha : w.heap.size ≤ b) (ht : TuAt W L cap t) (v0 v1 v2 : Value) :
    ((((W.setCell ⟨b, 0, none⟩ v0).setCell ⟨b, 1, none⟩ v1).setCell ⟨b, 2, none⟩ v2).cell? ⟨b, 0, none⟩ = some v0 ∧ (((W.setCell ⟨b, 0, none⟩ v0).setCell ⟨b, 1, none⟩ v1).setCell ⟨b, 2, none⟩ v2).cell? ⟨b, 1, none⟩ = some v1 ∧ (((W.setCell ⟨b, 0, none⟩ v0).setCell ⟨b, 1, none⟩ v1).setCell ⟨b, 2, none⟩ v2).cell? ⟨b, 2, none⟩ = some v2) ∧
    TuAt (((W.setCell ⟨b, 0, none⟩ v0).setCell ⟨b, 1, none⟩ v1).setCell ⟨b, 2, none⟩ v2) L cap t ∧ Keeps L.l w (((W.setCell ⟨b, 0, none⟩ v0).setCell ⟨b, 1, none⟩ v1).setCell ⟨b, 2, none⟩ v2) := by
  have h3 := (blk3_set ((blk3_set ((blk3_set hb).1 v0)).2.1 v1)).2.2 v2
  have hk : Keeps [b] W (((W.setCell ⟨b, 0, none⟩ v0).setCell ⟨b, 1, none⟩ v1).setCell ⟨b, 2, none⟩ v2) :=
    (((Keeps.refl [b] W).setCell (p := ⟨b, 0, none⟩) (.inl (by simp)) _).setCell (p := ⟨b, 1, none⟩) (.inl (by simp)) _).setCell (p := ⟨b, 2, none⟩) (.inl (by simp)) _
  refine ⟨⟨h3.cell 0, h3.cell 1, h3.cell 2⟩, ht.keeps hk (fun k hk hm => by simp only [List.mem_singleton] at hm; have := hlt k hk; omega), hK.trans' hk (fun i hi => .inr (by simp only [List.mem_singleton] at hi; omega))⟩

set_option maxRecDepth 100000 in
set_option maxHeartbeats 2000000 in
theorem do_0 (L : TL) (cap : Nat) (t t' : Tu) (side n : Int) (s : ByteArray) (r : Int) (hr : t.event n = (r, t')) (w : World) (_hE : Et w) (h : TuAt w L cap t) :
    Calls Tryz.prog 11 #[.pointer (some ⟨L.b, 0, none⟩), .agg #[.int .i64 0, .int .i64 side, .int .i64 n, .string s]] w fun e w' => e = .returned (.agg #[.int .i64 0, .string ⟨#[]⟩, .int .i64 r]) ∧ TuAt w' L cap t' ∧ Keeps L.l w w' := by
  obtain ⟨W0, hW0⟩ : ∃ W0, ((w.alloc (.cells #[.int .i64 0, .int .i64 side, .int .i64 n, .string s] 38)).alloc (.cells #[.int .i64 0, .string ⟨#[]⟩, .int .i64 0] 35)).alloc (.cells #[.int .i64 0, .string ⟨#[]⟩, .int .i64 0] 35) = W0 := ⟨_, rfl⟩
  have b1 : Blk W0 (w.heap.size + 1) 35 #[.int .i64 0, .string ⟨#[]⟩, .int .i64 0] := by rw [← hW0]; exact (Blk.new2 _ _ _ _ (by simp)).alloc _
  have b2 : Blk W0 (w.heap.size + 1 + 1) 35 #[.int .i64 0, .string ⟨#[]⟩, .int .i64 0] := by rw [← hW0]; exact Blk.new2 _ _ _ _ (by simp)
  have hK0 : Keeps [] w W0 := by rw [← hW0]; exact (((Keeps.refl [] w).alloc _).alloc _).alloc _
  have hc := uEvent_any L cap t t' n r hr W0 (h.keep hK0)
  have HC := Lib.hid hc
  have HB1 := Lib.hid b1
  have HB2 := Lib.hid b2
  have HK0 := Lib.hid hK0
  have HW0 := Lib.hid hW0
  have HLT := Lib.hid h.lt
  clear hW0 b1 b2 hK0 h hc hr
  go_enter Tryz.func11, Tryz.ntmps11
  go_wp2_with (fail)
  rw [HW0.out]
  refine HC.out.mono ?_
  rintro e w1 ⟨rfl, ht, hk⟩
  have q1 := HB1.out.keeps hk (fun hm => by have := HLT.out _ hm; omega)
  have q2 := HB2.out.keeps hk (fun hm => by have := HLT.out _ hm; omega)
  have g0 := q2.cell 0
  have g1 := q2.cell 1
  have g2 := q2.cell 2
  have gf0 := q2.frozen 0
  have gf1 := q2.frozen 1
  have gf2 := q2.frozen 2
  have q2' := ((blk3_set q2).2.2 (.int .i64 r))
  have hk2 : Keeps [w.heap.size + 1 + 1] w1 (w1.setCell ⟨w.heap.size + 1 + 1, 2, none⟩ (.int .i64 r)) := ((Keeps.refl [w.heap.size + 1 + 1] w1).setCell (p := ⟨w.heap.size + 1 + 1, 2, none⟩) (.inl (by simp)) _)
  have q1' := q1.keeps hk2 (by simp)
  have ht' := ht.keeps hk2 (fun k hk hm => by simp only [List.mem_singleton] at hm; have := HLT.out k hk; omega)
  have hkk := (HK0.out.mono (S' := L.l) (by simp)).trans hk |>.trans' hk2 (fun i hi => .inr (by simp only [List.mem_singleton] at hi; omega))
  have z0 := q2'.cell 0
  have z1 := q2'.cell 1
  have z2 := q2'.cell 2
  have y0 := q1'.cell 0
  have y1 := q1'.cell 1
  have y2 := q1'.cell 2
  have f0 := q1'.frozen 0
  have f1 := q1'.frozen 1
  have f2 := q1'.frozen 2
  have HEND := Lib.hid (do_end q1' hkk HLT.out (by omega) ht' (.int .i64 0) (.string ⟨#[]⟩) (.int .i64 r))
  simp only [List.getElem?_toArray, List.getElem?_cons_zero, List.getElem?_cons_succ] at g0 g1 g2 z0 z1 z2 y0 y1 y2
  clear hk q1 q2 ht q2' hk2 q1' ht' hkk HC HB1 HB2 HK0 HW0
  go_wp2_with (fail)
  obtain ⟨⟨r0, r1, r2⟩, r3, r4⟩ := HEND.out
  exact bodyPost_ret (v := .agg #[.int .i64 0, .string ⟨#[]⟩, .int .i64 r]) (by simp [results, Tryz.results11, go_sem, r0, r1, r2]) rfl ⟨rfl, r3, r4⟩

set_option maxRecDepth 100000 in
set_option maxHeartbeats 2000000 in
theorem do_1 (L : TL) (cap : Nat) (t t' : Tu) (side n : Int) (s : ByteArray) (r : Int) (hr : t.grant side n = (r, t')) (w : World) (hE : Et w) (h : TuAt w L cap t) :
    Calls Tryz.prog 11 #[.pointer (some ⟨L.b, 0, none⟩), .agg #[.int .i64 1, .int .i64 side, .int .i64 n, .string s]] w fun e w' => e = .returned (.agg #[.int .i64 0, .string ⟨#[]⟩, .int .i64 r]) ∧ TuAt w' L cap t' ∧ Keeps L.l w w' := by
  obtain ⟨W0, hW0⟩ : ∃ W0, ((w.alloc (.cells #[.int .i64 1, .int .i64 side, .int .i64 n, .string s] 38)).alloc (.cells #[.int .i64 0, .string ⟨#[]⟩, .int .i64 0] 35)).alloc (.cells #[.int .i64 0, .string ⟨#[]⟩, .int .i64 0] 35) = W0 := ⟨_, rfl⟩
  have b1 : Blk W0 (w.heap.size + 1) 35 #[.int .i64 0, .string ⟨#[]⟩, .int .i64 0] := by rw [← hW0]; exact (Blk.new2 _ _ _ _ (by simp)).alloc _
  have b2 : Blk W0 (w.heap.size + 1 + 1) 35 #[.int .i64 0, .string ⟨#[]⟩, .int .i64 0] := by rw [← hW0]; exact Blk.new2 _ _ _ _ (by simp)
  have hK0 : Keeps [] w W0 := by rw [← hW0]; exact (((Keeps.refl [] w).alloc _).alloc _).alloc _
  have hc := uGrant_any L cap t t' side n r hr W0 (hE.keeps hK0 (by simp)) (h.keep hK0)
  have HC := Lib.hid hc
  have HB1 := Lib.hid b1
  have HB2 := Lib.hid b2
  have HK0 := Lib.hid hK0
  have HW0 := Lib.hid hW0
  have HLT := Lib.hid h.lt
  clear hW0 b1 b2 hK0 hE h hc hr
  go_enter Tryz.func11, Tryz.ntmps11
  go_wp2_with (fail)
  rw [HW0.out]
  refine HC.out.mono ?_
  rintro e w1 ⟨rfl, ht, hk⟩
  have q1 := HB1.out.keeps hk (fun hm => by have := HLT.out _ hm; omega)
  have q2 := HB2.out.keeps hk (fun hm => by have := HLT.out _ hm; omega)
  have g0 := q2.cell 0
  have g1 := q2.cell 1
  have g2 := q2.cell 2
  have gf0 := q2.frozen 0
  have gf1 := q2.frozen 1
  have gf2 := q2.frozen 2
  have q2' := ((blk3_set q2).2.2 (.int .i64 r))
  have hk2 : Keeps [w.heap.size + 1 + 1] w1 (w1.setCell ⟨w.heap.size + 1 + 1, 2, none⟩ (.int .i64 r)) := ((Keeps.refl [w.heap.size + 1 + 1] w1).setCell (p := ⟨w.heap.size + 1 + 1, 2, none⟩) (.inl (by simp)) _)
  have q1' := q1.keeps hk2 (by simp)
  have ht' := ht.keeps hk2 (fun k hk hm => by simp only [List.mem_singleton] at hm; have := HLT.out k hk; omega)
  have hkk := (HK0.out.mono (S' := L.l) (by simp)).trans hk |>.trans' hk2 (fun i hi => .inr (by simp only [List.mem_singleton] at hi; omega))
  have z0 := q2'.cell 0
  have z1 := q2'.cell 1
  have z2 := q2'.cell 2
  have y0 := q1'.cell 0
  have y1 := q1'.cell 1
  have y2 := q1'.cell 2
  have f0 := q1'.frozen 0
  have f1 := q1'.frozen 1
  have f2 := q1'.frozen 2
  have HEND := Lib.hid (do_end q1' hkk HLT.out (by omega) ht' (.int .i64 0) (.string ⟨#[]⟩) (.int .i64 r))
  simp only [List.getElem?_toArray, List.getElem?_cons_zero, List.getElem?_cons_succ] at g0 g1 g2 z0 z1 z2 y0 y1 y2
  clear hk q1 q2 ht q2' hk2 q1' ht' hkk HC HB1 HB2 HK0 HW0
  go_wp2_with (fail)
  obtain ⟨⟨r0, r1, r2⟩, r3, r4⟩ := HEND.out
  exact bodyPost_ret (v := .agg #[.int .i64 0, .string ⟨#[]⟩, .int .i64 r]) (by simp [results, Tryz.results11, go_sem, r0, r1, r2]) rfl ⟨rfl, r3, r4⟩

set_option maxRecDepth 100000 in
set_option maxHeartbeats 2000000 in
theorem do_2 (L : TL) (cap : Nat) (t t' : Tu) (side n : Int) (s : ByteArray) (hsz : s.size ≤ 1000000) (k : Nat) (r : Int) (hr : t.feed cap side s.data.toList = (k, r, t')) (w : World) (hE : Et w) (h : TuAt w L cap t) :
    Calls Tryz.prog 11 #[.pointer (some ⟨L.b, 0, none⟩), .agg #[.int .i64 2, .int .i64 side, .int .i64 n, .string s]] w fun e w' => e = .returned (.agg #[.int .i64 k, .string ⟨#[]⟩, .int .i64 r]) ∧ TuAt w' L cap t' ∧ Keeps L.l w w' := by
  obtain ⟨W0, hW0⟩ : ∃ W0, ((w.alloc (.cells #[.int .i64 2, .int .i64 side, .int .i64 n, .string s] 38)).alloc (.cells #[.int .i64 0, .string ⟨#[]⟩, .int .i64 0] 35)).alloc (.cells #[.int .i64 0, .string ⟨#[]⟩, .int .i64 0] 35) = W0 := ⟨_, rfl⟩
  have b1 : Blk W0 (w.heap.size + 1) 35 #[.int .i64 0, .string ⟨#[]⟩, .int .i64 0] := by rw [← hW0]; exact (Blk.new2 _ _ _ _ (by simp)).alloc _
  have b2 : Blk W0 (w.heap.size + 1 + 1) 35 #[.int .i64 0, .string ⟨#[]⟩, .int .i64 0] := by rw [← hW0]; exact Blk.new2 _ _ _ _ (by simp)
  have hK0 : Keeps [] w W0 := by rw [← hW0]; exact (((Keeps.refl [] w).alloc _).alloc _).alloc _
  have hc := uFeed_any L cap t t' side s hsz k r hr W0 (hE.keeps hK0 (by simp)) (h.keep hK0)
  have HC := Lib.hid hc
  have HB1 := Lib.hid b1
  have HB2 := Lib.hid b2
  have HK0 := Lib.hid hK0
  have HW0 := Lib.hid hW0
  have HLT := Lib.hid h.lt
  clear hW0 b1 b2 hK0 hE h hc hr hsz
  go_enter Tryz.func11, Tryz.ntmps11
  go_wp2_with (fail)
  rw [HW0.out]
  refine HC.out.mono ?_
  rintro e w1 ⟨rfl, ht, hk⟩
  have q1 := HB1.out.keeps hk (fun hm => by have := HLT.out _ hm; omega)
  have q2 := HB2.out.keeps hk (fun hm => by have := HLT.out _ hm; omega)
  have g0 := q2.cell 0
  have g1 := q2.cell 1
  have g2 := q2.cell 2
  have gf0 := q2.frozen 0
  have gf1 := q2.frozen 1
  have gf2 := q2.frozen 2
  have q2' := ((blk3_set ((blk3_set q2).1 (.int .i64 k))).2.2 (.int .i64 r))
  have hk2 : Keeps [w.heap.size + 1 + 1] w1 ((w1.setCell ⟨w.heap.size + 1 + 1, 0, none⟩ (.int .i64 k)).setCell ⟨w.heap.size + 1 + 1, 2, none⟩ (.int .i64 r)) := (((Keeps.refl [w.heap.size + 1 + 1] w1).setCell (p := ⟨w.heap.size + 1 + 1, 0, none⟩) (.inl (by simp)) _).setCell (p := ⟨w.heap.size + 1 + 1, 2, none⟩) (.inl (by simp)) _)
  have q1' := q1.keeps hk2 (by simp)
  have ht' := ht.keeps hk2 (fun k hk hm => by simp only [List.mem_singleton] at hm; have := HLT.out k hk; omega)
  have hkk := (HK0.out.mono (S' := L.l) (by simp)).trans hk |>.trans' hk2 (fun i hi => .inr (by simp only [List.mem_singleton] at hi; omega))
  have z0 := q2'.cell 0
  have z1 := q2'.cell 1
  have z2 := q2'.cell 2
  have y0 := q1'.cell 0
  have y1 := q1'.cell 1
  have y2 := q1'.cell 2
  have f0 := q1'.frozen 0
  have f1 := q1'.frozen 1
  have f2 := q1'.frozen 2
  have HEND := Lib.hid (do_end q1' hkk HLT.out (by omega) ht' (.int .i64 k) (.string ⟨#[]⟩) (.int .i64 r))
  simp only [List.getElem?_toArray, List.getElem?_cons_zero, List.getElem?_cons_succ] at g0 g1 g2 z0 z1 z2 y0 y1 y2
  clear hk q1 q2 ht q2' hk2 q1' ht' hkk HC HB1 HB2 HK0 HW0
  go_wp2_with (fail)
  obtain ⟨⟨r0, r1, r2⟩, r3, r4⟩ := HEND.out
  exact bodyPost_ret (v := .agg #[.int .i64 k, .string ⟨#[]⟩, .int .i64 r]) (by simp [results, Tryz.results11, go_sem, r0, r1, r2]) rfl ⟨rfl, r3, r4⟩

set_option maxRecDepth 100000 in
set_option maxHeartbeats 2000000 in
theorem do_3 (L : TL) (cap : Nat) (t t' : Tu) (side n : Int) (s : ByteArray) (k : Nat) (r : Int) (hr : t.move cap side n = (k, r, t')) (w : World) (hE : Et w) (h : TuAt w L cap t) :
    Calls Tryz.prog 11 #[.pointer (some ⟨L.b, 0, none⟩), .agg #[.int .i64 3, .int .i64 side, .int .i64 n, .string s]] w fun e w' => e = .returned (.agg #[.int .i64 k, .string ⟨#[]⟩, .int .i64 r]) ∧ TuAt w' L cap t' ∧ Keeps L.l w w' := by
  obtain ⟨W0, hW0⟩ : ∃ W0, ((w.alloc (.cells #[.int .i64 3, .int .i64 side, .int .i64 n, .string s] 38)).alloc (.cells #[.int .i64 0, .string ⟨#[]⟩, .int .i64 0] 35)).alloc (.cells #[.int .i64 0, .string ⟨#[]⟩, .int .i64 0] 35) = W0 := ⟨_, rfl⟩
  have b1 : Blk W0 (w.heap.size + 1) 35 #[.int .i64 0, .string ⟨#[]⟩, .int .i64 0] := by rw [← hW0]; exact (Blk.new2 _ _ _ _ (by simp)).alloc _
  have b2 : Blk W0 (w.heap.size + 1 + 1) 35 #[.int .i64 0, .string ⟨#[]⟩, .int .i64 0] := by rw [← hW0]; exact Blk.new2 _ _ _ _ (by simp)
  have hK0 : Keeps [] w W0 := by rw [← hW0]; exact (((Keeps.refl [] w).alloc _).alloc _).alloc _
  have hc := uMove_any L cap t t' side n k r hr W0 (hE.keeps hK0 (by simp)) (h.keep hK0)
  have HC := Lib.hid hc
  have HB1 := Lib.hid b1
  have HB2 := Lib.hid b2
  have HK0 := Lib.hid hK0
  have HW0 := Lib.hid hW0
  have HLT := Lib.hid h.lt
  clear hW0 b1 b2 hK0 hE h hc hr
  go_enter Tryz.func11, Tryz.ntmps11
  go_wp2_with (fail)
  rw [HW0.out]
  refine HC.out.mono ?_
  rintro e w1 ⟨rfl, ht, hk⟩
  have q1 := HB1.out.keeps hk (fun hm => by have := HLT.out _ hm; omega)
  have q2 := HB2.out.keeps hk (fun hm => by have := HLT.out _ hm; omega)
  have g0 := q2.cell 0
  have g1 := q2.cell 1
  have g2 := q2.cell 2
  have gf0 := q2.frozen 0
  have gf1 := q2.frozen 1
  have gf2 := q2.frozen 2
  have q2' := ((blk3_set ((blk3_set q2).1 (.int .i64 k))).2.2 (.int .i64 r))
  have hk2 : Keeps [w.heap.size + 1 + 1] w1 ((w1.setCell ⟨w.heap.size + 1 + 1, 0, none⟩ (.int .i64 k)).setCell ⟨w.heap.size + 1 + 1, 2, none⟩ (.int .i64 r)) := (((Keeps.refl [w.heap.size + 1 + 1] w1).setCell (p := ⟨w.heap.size + 1 + 1, 0, none⟩) (.inl (by simp)) _).setCell (p := ⟨w.heap.size + 1 + 1, 2, none⟩) (.inl (by simp)) _)
  have q1' := q1.keeps hk2 (by simp)
  have ht' := ht.keeps hk2 (fun k hk hm => by simp only [List.mem_singleton] at hm; have := HLT.out k hk; omega)
  have hkk := (HK0.out.mono (S' := L.l) (by simp)).trans hk |>.trans' hk2 (fun i hi => .inr (by simp only [List.mem_singleton] at hi; omega))
  have z0 := q2'.cell 0
  have z1 := q2'.cell 1
  have z2 := q2'.cell 2
  have y0 := q1'.cell 0
  have y1 := q1'.cell 1
  have y2 := q1'.cell 2
  have f0 := q1'.frozen 0
  have f1 := q1'.frozen 1
  have f2 := q1'.frozen 2
  have HEND := Lib.hid (do_end q1' hkk HLT.out (by omega) ht' (.int .i64 k) (.string ⟨#[]⟩) (.int .i64 r))
  simp only [List.getElem?_toArray, List.getElem?_cons_zero, List.getElem?_cons_succ] at g0 g1 g2 z0 z1 z2 y0 y1 y2
  clear hk q1 q2 ht q2' hk2 q1' ht' hkk HC HB1 HB2 HK0 HW0
  go_wp2_with (fail)
  obtain ⟨⟨r0, r1, r2⟩, r3, r4⟩ := HEND.out
  exact bodyPost_ret (v := .agg #[.int .i64 k, .string ⟨#[]⟩, .int .i64 r]) (by simp [results, Tryz.results11, go_sem, r0, r1, r2]) rfl ⟨rfl, r3, r4⟩

set_option maxRecDepth 100000 in
set_option maxHeartbeats 2000000 in
theorem do_4 (L : TL) (cap : Nat) (t t' : Tu) (side n : Int) (s : ByteArray) (q : List UInt8) (qs : ByteArray) (hqs : str q = qs) (r : Int) (hr : t.drain side n = (q, r, t')) (w : World) (hE : Et w) (h : TuAt w L cap t) :
    Calls Tryz.prog 11 #[.pointer (some ⟨L.b, 0, none⟩), .agg #[.int .i64 4, .int .i64 side, .int .i64 n, .string s]] w fun e w' => e = .returned (.agg #[.int .i64 0, .string qs, .int .i64 r]) ∧ TuAt w' L cap t' ∧ Keeps L.l w w' := by
  obtain ⟨W0, hW0⟩ : ∃ W0, ((w.alloc (.cells #[.int .i64 4, .int .i64 side, .int .i64 n, .string s] 38)).alloc (.cells #[.int .i64 0, .string ⟨#[]⟩, .int .i64 0] 35)).alloc (.cells #[.int .i64 0, .string ⟨#[]⟩, .int .i64 0] 35) = W0 := ⟨_, rfl⟩
  have b1 : Blk W0 (w.heap.size + 1) 35 #[.int .i64 0, .string ⟨#[]⟩, .int .i64 0] := by rw [← hW0]; exact (Blk.new2 _ _ _ _ (by simp)).alloc _
  have b2 : Blk W0 (w.heap.size + 1 + 1) 35 #[.int .i64 0, .string ⟨#[]⟩, .int .i64 0] := by rw [← hW0]; exact Blk.new2 _ _ _ _ (by simp)
  have hK0 : Keeps [] w W0 := by rw [← hW0]; exact (((Keeps.refl [] w).alloc _).alloc _).alloc _
  have hc := hqs ▸ uDrain_any L cap t t' side n q r hr W0 (hE.keeps hK0 (by simp)) (h.keep hK0)
  have HC := Lib.hid hc
  have HB1 := Lib.hid b1
  have HB2 := Lib.hid b2
  have HK0 := Lib.hid hK0
  have HW0 := Lib.hid hW0
  have HLT := Lib.hid h.lt
  clear hW0 b1 b2 hK0 hE h hc hr hqs
  go_enter Tryz.func11, Tryz.ntmps11
  go_wp2_with (fail)
  rw [HW0.out]
  refine HC.out.mono ?_
  rintro e w1 ⟨rfl, ht, hk⟩
  have q1 := HB1.out.keeps hk (fun hm => by have := HLT.out _ hm; omega)
  have q2 := HB2.out.keeps hk (fun hm => by have := HLT.out _ hm; omega)
  have g0 := q2.cell 0
  have g1 := q2.cell 1
  have g2 := q2.cell 2
  have gf0 := q2.frozen 0
  have gf1 := q2.frozen 1
  have gf2 := q2.frozen 2
  have q2' := ((blk3_set ((blk3_set q2).2.1 (.string qs))).2.2 (.int .i64 r))
  have hk2 : Keeps [w.heap.size + 1 + 1] w1 ((w1.setCell ⟨w.heap.size + 1 + 1, 1, none⟩ (.string qs)).setCell ⟨w.heap.size + 1 + 1, 2, none⟩ (.int .i64 r)) := (((Keeps.refl [w.heap.size + 1 + 1] w1).setCell (p := ⟨w.heap.size + 1 + 1, 1, none⟩) (.inl (by simp)) _).setCell (p := ⟨w.heap.size + 1 + 1, 2, none⟩) (.inl (by simp)) _)
  have q1' := q1.keeps hk2 (by simp)
  have ht' := ht.keeps hk2 (fun k hk hm => by simp only [List.mem_singleton] at hm; have := HLT.out k hk; omega)
  have hkk := (HK0.out.mono (S' := L.l) (by simp)).trans hk |>.trans' hk2 (fun i hi => .inr (by simp only [List.mem_singleton] at hi; omega))
  have z0 := q2'.cell 0
  have z1 := q2'.cell 1
  have z2 := q2'.cell 2
  have y0 := q1'.cell 0
  have y1 := q1'.cell 1
  have y2 := q1'.cell 2
  have f0 := q1'.frozen 0
  have f1 := q1'.frozen 1
  have f2 := q1'.frozen 2
  have HEND := Lib.hid (do_end q1' hkk HLT.out (by omega) ht' (.int .i64 0) (.string qs) (.int .i64 r))
  simp only [List.getElem?_toArray, List.getElem?_cons_zero, List.getElem?_cons_succ] at g0 g1 g2 z0 z1 z2 y0 y1 y2
  clear hk q1 q2 ht q2' hk2 q1' ht' hkk HC HB1 HB2 HK0 HW0
  go_wp2_with (fail)
  obtain ⟨⟨r0, r1, r2⟩, r3, r4⟩ := HEND.out
  exact bodyPost_ret (v := .agg #[.int .i64 0, .string qs, .int .i64 r]) (by simp [results, Tryz.results11, go_sem, r0, r1, r2]) rfl ⟨rfl, r3, r4⟩

set_option maxRecDepth 100000 in
set_option maxHeartbeats 2000000 in
theorem do_5 (L : TL) (cap : Nat) (t t' : Tu) (side n : Int) (s : ByteArray) (k : Nat) (hr : t.stop = (k, t')) (w : World) (_hE : Et w) (h : TuAt w L cap t) :
    Calls Tryz.prog 11 #[.pointer (some ⟨L.b, 0, none⟩), .agg #[.int .i64 5, .int .i64 side, .int .i64 n, .string s]] w fun e w' => e = .returned (.agg #[.int .i64 k, .string ⟨#[]⟩, .int .i64 0]) ∧ TuAt w' L cap t' ∧ Keeps L.l w w' := by
  obtain ⟨W0, hW0⟩ : ∃ W0, ((w.alloc (.cells #[.int .i64 5, .int .i64 side, .int .i64 n, .string s] 38)).alloc (.cells #[.int .i64 0, .string ⟨#[]⟩, .int .i64 0] 35)).alloc (.cells #[.int .i64 0, .string ⟨#[]⟩, .int .i64 0] 35) = W0 := ⟨_, rfl⟩
  have b1 : Blk W0 (w.heap.size + 1) 35 #[.int .i64 0, .string ⟨#[]⟩, .int .i64 0] := by rw [← hW0]; exact (Blk.new2 _ _ _ _ (by simp)).alloc _
  have b2 : Blk W0 (w.heap.size + 1 + 1) 35 #[.int .i64 0, .string ⟨#[]⟩, .int .i64 0] := by rw [← hW0]; exact Blk.new2 _ _ _ _ (by simp)
  have hK0 : Keeps [] w W0 := by rw [← hW0]; exact (((Keeps.refl [] w).alloc _).alloc _).alloc _
  have hc := uStop_any L cap t t' k hr W0 (h.keep hK0)
  have HC := Lib.hid hc
  have HB1 := Lib.hid b1
  have HB2 := Lib.hid b2
  have HK0 := Lib.hid hK0
  have HW0 := Lib.hid hW0
  have HLT := Lib.hid h.lt
  clear hW0 b1 b2 hK0 h hc hr
  go_enter Tryz.func11, Tryz.ntmps11
  go_wp2_with (fail)
  rw [HW0.out]
  refine HC.out.mono ?_
  rintro e w1 ⟨rfl, ht, hk⟩
  have q1 := HB1.out.keeps hk (fun hm => by have := HLT.out _ hm; omega)
  have q2 := HB2.out.keeps hk (fun hm => by have := HLT.out _ hm; omega)
  have g0 := q2.cell 0
  have g1 := q2.cell 1
  have g2 := q2.cell 2
  have gf0 := q2.frozen 0
  have gf1 := q2.frozen 1
  have gf2 := q2.frozen 2
  have q2' := ((blk3_set q2).1 (.int .i64 k))
  have hk2 : Keeps [w.heap.size + 1 + 1] w1 (w1.setCell ⟨w.heap.size + 1 + 1, 0, none⟩ (.int .i64 k)) := ((Keeps.refl [w.heap.size + 1 + 1] w1).setCell (p := ⟨w.heap.size + 1 + 1, 0, none⟩) (.inl (by simp)) _)
  have q1' := q1.keeps hk2 (by simp)
  have ht' := ht.keeps hk2 (fun k hk hm => by simp only [List.mem_singleton] at hm; have := HLT.out k hk; omega)
  have hkk := (HK0.out.mono (S' := L.l) (by simp)).trans hk |>.trans' hk2 (fun i hi => .inr (by simp only [List.mem_singleton] at hi; omega))
  have z0 := q2'.cell 0
  have z1 := q2'.cell 1
  have z2 := q2'.cell 2
  have y0 := q1'.cell 0
  have y1 := q1'.cell 1
  have y2 := q1'.cell 2
  have f0 := q1'.frozen 0
  have f1 := q1'.frozen 1
  have f2 := q1'.frozen 2
  have HEND := Lib.hid (do_end q1' hkk HLT.out (by omega) ht' (.int .i64 k) (.string ⟨#[]⟩) (.int .i64 0))
  simp only [List.getElem?_toArray, List.getElem?_cons_zero, List.getElem?_cons_succ] at g0 g1 g2 z0 z1 z2 y0 y1 y2
  clear hk q1 q2 ht q2' hk2 q1' ht' hkk HC HB1 HB2 HK0 HW0
  go_wp2_with (fail)
  obtain ⟨⟨r0, r1, r2⟩, r3, r4⟩ := HEND.out
  exact bodyPost_ret (v := .agg #[.int .i64 k, .string ⟨#[]⟩, .int .i64 0]) (by simp [results, Tryz.results11, go_sem, r0, r1, r2]) rfl ⟨rfl, r3, r4⟩

set_option maxHeartbeats 2000000 in
theorem do_none (L : TL) (cap : Nat) (t : Tu) (k side n : Int) (s : ByteArray) (hk : k < 0 ∨ 5 < k) (w : World) (h : TuAt w L cap t) :
    Calls Tryz.prog 11 #[.pointer (some ⟨L.b, 0, none⟩), .agg #[.int .i64 k, .int .i64 side, .int .i64 n, .string s]] w fun e w' => e = .returned (.agg #[.int .i64 0, .string ⟨#[]⟩, .int .i64 0]) ∧ TuAt w' L cap t ∧ Keeps L.l w w' := by
  have e0 : (k == 0) = false := by simp; omega
  have e1 : (k == 1) = false := by simp; omega
  have e2 : (k == 2) = false := by simp; omega
  have e3 : (k == 3) = false := by simp; omega
  have e4 : (k == 4) = false := by simp; omega
  have e5 : (k == 5) = false := by simp; omega
  have H := Lib.hid h
  clear h hk
  go_enter Tryz.func11, Tryz.ntmps11
  go_wp2
  have hK : Keeps [] w (((w.alloc (.cells #[.int .i64 k, .int .i64 side, .int .i64 n, .string s] 38)).alloc (.cells #[.int .i64 0, .string ⟨#[]⟩, .int .i64 0] 35)).alloc (.cells #[.int .i64 0, .string ⟨#[]⟩, .int .i64 0] 35)) := (((Keeps.refl [] w).alloc _).alloc _).alloc _
  exact bodyPost_ret (v := .agg #[.int .i64 0, .string ⟨#[]⟩, .int .i64 0]) (by simp [results, Tryz.results11, go_sem]) rfl ⟨rfl, H.out.keep hK, hK.mono (by simp)⟩

theorem do_any (L : TL) (cap : Nat) (t t' : Tu) (x : Op1) (hsz : x.s.size ≤ 1000000) (k : Nat) (q : List UInt8) (r : Int) (hr : t.act cap x = ((k, q, r), t')) (w : World) (hE : Et w) (h : TuAt w L cap t) :
    Calls Tryz.prog 11 #[.pointer (some ⟨L.b, 0, none⟩), .agg #[.int .i64 x.kind, .int .i64 x.side, .int .i64 x.n, .string x.s]] w fun e w' => e = .returned (.agg #[.int .i64 k, .string (str q), .int .i64 r]) ∧ TuAt w' L cap t' ∧ Keeps L.l w w' := by
  obtain ⟨kd, side, n, s⟩ := x
  unfold Tu.act at hr
  dsimp only at hr hsz ⊢
  by_cases h0 : kd = 0
  · subst h0
    rw [if_pos rfl] at hr
    obtain ⟨⟨rfl, rfl, rfl⟩, rfl⟩ := act_eq hr
    exact do_0 L cap t _ side n s _ rfl w hE h
  rw [if_neg h0] at hr
  by_cases h1 : kd = 1
  · subst h1
    rw [if_pos rfl] at hr
    obtain ⟨⟨rfl, rfl, rfl⟩, rfl⟩ := act_eq hr
    exact do_1 L cap t _ side n s _ rfl w hE h
  rw [if_neg h1] at hr
  by_cases h2 : kd = 2
  · subst h2
    rw [if_pos rfl] at hr
    obtain ⟨⟨rfl, rfl, rfl⟩, rfl⟩ := act_eq hr
    exact do_2 L cap t _ side n s hsz _ _ rfl w hE h
  rw [if_neg h2] at hr
  by_cases h3 : kd = 3
  · subst h3
    rw [if_pos rfl] at hr
    obtain ⟨⟨rfl, rfl, rfl⟩, rfl⟩ := act_eq hr
    exact do_3 L cap t _ side n s _ _ rfl w hE h
  rw [if_neg h3] at hr
  by_cases h4 : kd = 4
  · subst h4
    rw [if_pos rfl] at hr
    obtain ⟨⟨rfl, rfl, rfl⟩, rfl⟩ := act_eq hr
    exact do_4 L cap t _ side n s _ _ rfl _ rfl w hE h
  rw [if_neg h4] at hr
  by_cases h5 : kd = 5
  · subst h5
    rw [if_pos rfl] at hr
    obtain ⟨⟨rfl, rfl, rfl⟩, rfl⟩ := act_eq hr
    exact do_5 L cap t _ side n s _ rfl w hE h
  rw [if_neg h5] at hr
  obtain ⟨⟨rfl, rfl, rfl⟩, rfl⟩ := act_eq hr
  exact do_none L cap t kd side n s (by omega) w h

end Go.Proofs.YtollcbacpoohlaaGreatDoor
