/- The walks of a tunnel's Counts, of newWay and New. -/
import Derived.Test.YtollcbacpoohlaaGreatDoorTunL
import Derived.Deep.DeepCutAuto
namespace Go.Proofs.YtollcbacpoohlaaGreatDoor
open Go.RowKit
attribute [local go_sem ↓] Go.wp_at_zero Go.wp_at_succ

def Tu.counts (t : Tu) (side : Int) : Nat × Nat × Nat := if sideB side then ((t.at_ side).f, (t.at_ side).s, (t.at_ side).d) else (0, 0, 0)

/-- The cells of three counts, in new blocks. -/
structure CntAt (w : World) (a b c : Nat) (x y z : Nat) : Prop where
  a : Blk w a 3 #[.int .i64 x]
  b : Blk w b 3 #[.int .i64 y]
  c : Blk w c 3 #[.int .i64 z]

set_option maxRecDepth 100000 in
set_option maxHeartbeats 2000000 in
theorem uCounts_any (L : TL) (cap : Nat) (t : Tu) (side : Int) (x y z : Nat) (hr : t.counts side = (x, y, z)) (w : World) (h : TuAt w L cap t) :
    Calls Tryz.prog 29 #[.pointer (some ⟨L.b, 0, none⟩), .int .i64 side] w fun e w' => e = .returned (.tuple #[.int .i64 x, .int .i64 y, .int .i64 z]) ∧ Keeps [] w w' := by
  obtain ⟨W0, hW0⟩ : ∃ W0, ((w.alloc (.cells #[.int .i64 0] 3)).alloc (.cells #[.int .i64 0] 3)).alloc (.cells #[.int .i64 0] 3) = W0 := ⟨_, rfl⟩
  have b0 : Blk W0 w.heap.size 3 #[.int .i64 0] := by rw [← hW0]; exact ((Blk.new w _ _).alloc _).alloc _
  have b1 : Blk W0 (w.heap.size + 1) 3 #[.int .i64 0] := by rw [← hW0]; exact (Blk.new2 _ _ _ _ (by simp)).alloc _
  have b2 : Blk W0 (w.heap.size + 1 + 1) 3 #[.int .i64 0] := by rw [← hW0]; exact Blk.new2 _ _ _ _ (by simp)
  have hK0 : Keeps [] w W0 := by rw [← hW0]; exact (((Keeps.refl [] w).alloc _).alloc _).alloc _
  have hon : ∃ v, Calls Tryz.prog 32 #[.pointer (some ⟨L.b, 0, none⟩), .int .i64 side, .func (.func 60) #[] #[.pointer (some ⟨w.heap.size, 0, none⟩), .pointer (some ⟨w.heap.size + 1, 0, none⟩), .pointer (some ⟨w.heap.size + 1 + 1, 0, none⟩)]] W0 fun e w' => e = .returned v ∧ CntAt w' w.heap.size (w.heap.size + 1) (w.heap.size + 1 + 1) x y z ∧ Keeps [w.heap.size, w.heap.size + 1, w.heap.size + 1 + 1] W0 w' := by
    unfold Tu.counts at hr
    cases hs : sideB side with
    | false =>
      rw [hs, if_neg (by simp)] at hr
      obtain ⟨rfl, rfl, rfl⟩ := hr3 hr
      refine ⟨errW 170, (on_none L side hs _ W0).mono ?_⟩
      rintro e w' ⟨he, rfl⟩
      exact ⟨he, ⟨b0, b1, b2⟩, Keeps.refl _ _⟩
    | true =>
      rw [hs, if_pos rfl] at hr
      obtain ⟨rfl, rfl, rfl⟩ := hr3 hr
      have hA := h.keep hK0
      have hlt := h.lt
      have hbl : (L.wl side).b < w.heap.size := hlt _ (L.wl_sub side _ (by simp [WL.l]))
      exact ⟨errW 0, on_side 60 _ ent_counts1 L cap t side hs W0 hA _ _ ((counts1_any (L.wl side) cap (t.at_ side) _ _ _ W0 b0 b1 b2 ⟨by omega, by omega, by omega⟩ ⟨by omega, by omega, by omega⟩ (hA.way side)).mono fun _ _ ⟨h1, h2, h3, h4, h5⟩ => ⟨h1, ⟨h2, h3, h4⟩, h5⟩)⟩
  obtain ⟨v, hon⟩ := hon
  have HON := Lib.hid hon
  have HK0 := Lib.hid hK0
  have HW0 := Lib.hid hW0
  clear hr h hW0 b0 b1 b2 hK0 hon
  go_enter Tryz.func29, Tryz.ntmps29
  go_wp2_with (fail)
  rw [HW0.out]
  refine HON.out.mono ?_
  rintro e w1 ⟨rfl, hc, hk⟩
  have z0 := hc.a.cell 0
  have z1 := hc.b.cell 0
  have z2 := hc.c.cell 0
  have f0 := hc.a.frozen 0
  have f1 := hc.b.frozen 0
  have f2 := hc.c.frozen 0
  simp only [List.getElem?_toArray, List.getElem?_cons_zero] at z0 z1 z2
  have HC := Lib.hid hc
  have HK := Lib.hid (HK0.out.trans' hk (fun i hi => .inr (by simp only [List.mem_cons, List.not_mem_nil, or_false] at hi; omega)))
  clear hc hk
  go_wp2_with (fail)
  go_region
  all_goals go_wp2
  have q0 : _ = some (Value.int .i64 x) := (((HC.out.a.set_ 0 (.int .i64 x)).far (p := ⟨w.heap.size + 1, 0, none⟩) (by dsimp only; omega) (.int .i64 y)).far (p := ⟨w.heap.size + 1 + 1, 0, none⟩) (by dsimp only; omega) (.int .i64 z)).drew.cell 0
  have q1 : _ = some (Value.int .i64 y) := (((HC.out.b.far (p := ⟨w.heap.size, 0, none⟩) (by dsimp only; omega) (.int .i64 x)).set_ 0 (.int .i64 y)).far (p := ⟨w.heap.size + 1 + 1, 0, none⟩) (by dsimp only; omega) (.int .i64 z)).drew.cell 0
  have q2 : _ = some (Value.int .i64 z) := (((HC.out.c.far (p := ⟨w.heap.size, 0, none⟩) (by dsimp only; omega) (.int .i64 x)).far (p := ⟨w.heap.size + 1, 0, none⟩) (by dsimp only; omega) (.int .i64 y)).set_ 0 (.int .i64 z)).drew.cell 0
  exact bodyPost_ret (v := .tuple #[.int .i64 x, .int .i64 y, .int .i64 z]) (by simp [results, Tryz.results29, go_sem, q0, q1, q2]) rfl ⟨rfl, (((HK.out.setCell (p := ⟨w.heap.size, 0, none⟩) (.inr (by simp)) _).setCell (p := ⟨w.heap.size + 1, 0, none⟩) (.inr (by simp)) _).setCell (p := ⟨w.heap.size + 1 + 1, 0, none⟩) (.inr (by dsimp only; omega)) _).drew⟩

theorem newWay_bad (n : Int) (w : World) (h : n < 1 ∨ 4096 < n) :
    Calls Tryz.prog 18 #[.int .i64 n] w fun e w' => ∃ b, e = .returned (.tuple #[.pointer (some ⟨b, 0, none⟩), .int .i64 2]) ∧ Keeps [] w w' := by
  have H := Lib.hid (new_bad n)
  have HH := Lib.hid h
  clear h
  go_enter Tryz.func18, Tryz.ntmps18
  go_wp2_with (go_at_call 43; refine (H.out _ HH.out).mono ?_; rintro e w1 ⟨rfl, rfl⟩)
  go_ret2
  exact ⟨_, rfl, (Keeps.refl [] w).alloc _⟩

set_option maxHeartbeats 1000000 in
theorem newWay_ok (cap : Nat) (w : World) (h1 : 1 ≤ cap) (h2 : cap ≤ 4096) :
    Calls Tryz.prog 18 #[.int .i64 cap] w fun e w' => ∃ L : WL, e = .returned (.tuple #[.pointer (some ⟨L.b, 0, none⟩), .int .i64 0]) ∧ WyAt w' L cap Wy.zero ∧ Keeps [] w w' ∧ (∀ k ∈ L.l, w.heap.size ≤ k) ∧ ∀ k ∈ L.l, k < w'.heap.size := by
  go_enter Tryz.func18, Tryz.ntmps18
  go_wp2_with (fail)
  refine (new_ok cap _ h1 h2).mono ?_
  rintro e w1 ⟨rfl, hf1, hk1, hs1⟩
  have HF1 := Lib.hid hf1
  have HK1 := Lib.hid hk1
  have HS1 := Lib.hid hs1
  clear hf1 hk1 hs1
  go_wp2_with (fail)
  refine (new_ok cap _ h1 h2).mono ?_
  rintro e w2 ⟨rfl, hf2, hk2, hs2⟩
  have HF2 := Lib.hid hf2
  have HK2 := Lib.hid hk2
  have HS2 := Lib.hid hs2
  clear hf2 hk2 hs2
  go_wp2
  go_ret2
  have k1 := HS1.out
  have k2 := HS2.out
  have hka : Keeps [] w2 (w2.alloc (.cells #[.pointer (some ⟨w.heap.size + 1, 0, none⟩), .pointer (some ⟨w1.heap.size + 1, 0, none⟩), .int .i64 0, .int .i64 0, .int .i64 0, .int .i64 0, .int .i64 0] 82)) := (Keeps.refl [] w2).alloc _
  refine ⟨⟨w2.heap.size, w.heap.size + 1, w.heap.size, w1.heap.size + 1, w1.heap.size⟩, rfl, ⟨Blk.new w2 _ _, (HF1.out.keeps HK2.out (by simp) (by simp)).keeps hka (by simp) (by simp), HF2.out.keeps hka (by simp) (by simp), ?_, WyOk.zero cap⟩, (HK1.out.trans HK2.out).trans hka, ?_, ?_⟩
  · simp only [WL.l, List.nodup_cons, List.mem_cons, List.not_mem_nil, or_false, not_or, List.nodup_nil, and_true, not_false_eq_true]
    omega
  · intro k hk
    simp only [WL.l, List.mem_cons, List.not_mem_nil, or_false] at hk
    omega
  · intro k hk
    simp only [WL.l, List.mem_cons, List.not_mem_nil, or_false] at hk
    rw [World.size_alloc]
    omega

def Tu.zero : Tu := ⟨0, Wy.zero, Wy.zero⟩

theorem uNew_bad (n : Int) (w : World) (h : n < 1 ∨ 4096 < n) :
    Calls Tryz.prog 6 #[.int .i64 n] w fun e w' => e = .returned (.tuple #[.pointer none, .int .i64 2]) ∧ Keeps [] w w' := by
  have H := Lib.hid (newWay_bad n)
  have HH := Lib.hid h
  clear h
  go_enter Tryz.func6, Tryz.ntmps6
  go_wp2_with (fail)
  refine wp_loop_rounds 1 ?_
  rw [rounds_succ]
  go_wp2_with (fail)
  refine (H.out _ HH.out).mono ?_
  rintro e w1 ⟨b, rfl, hk⟩
  have HK := Lib.hid (((Keeps.refl [] w).alloc _).trans hk)
  clear hk
  go_wp2
  go_ret2
  exact ⟨rfl, HK.out⟩

set_option maxHeartbeats 2000000 in
theorem uNew_ok (cap : Nat) (w : World) (h1 : 1 ≤ cap) (h2 : cap ≤ 4096) (hE : Et w) :
    Calls Tryz.prog 6 #[.int .i64 cap] w fun e w' => ∃ L : TL, e = .returned (.tuple #[.pointer (some ⟨L.b, 0, none⟩), .int .i64 0]) ∧ TuAt w' L cap Tu.zero ∧ Keeps [] w w' ∧ ∀ k ∈ L.l, w.heap.size ≤ k := by
  have HE := Lib.hid (World.block_lt_of_cell? w _ hE : 0 < w.heap.size)
  clear hE
  go_enter Tryz.func6, Tryz.ntmps6
  go_wp2_with (fail)
  have hb0 := Blk.new w 57 #[.int .i64 0, .pointer none, .pointer none]
  have HB0 := Lib.hid hb0
  clear hb0
  refine wp_loop_rounds 3 ?_
  rw [rounds_succ]
  go_wp2_with (fail)
  refine (newWay_ok cap _ h1 h2).mono ?_
  rintro e w1 ⟨L1, rfl, hw1, hk1, hn1, hl1⟩
  have hb1 := HB0.out.keeps hk1 (by simp)
  have c1 := hb1.cell 1
  have f1 := hb1.frozen 1
  have HB1 := Lib.hid hb1
  have HW1 := Lib.hid hw1
  have HK1 := Lib.hid hk1
  have HN1 := Lib.hid hn1
  have HL1 := Lib.hid hl1
  clear hb1 hw1 hk1 hn1 hl1
  go_wp2_with (fail)
  obtain ⟨W1, hW1⟩ : ∃ W1, w1.setCell ⟨w.heap.size, 1, none⟩ (.pointer (some ⟨L1.b, 0, none⟩)) = W1 := ⟨_, rfl⟩
  have hs1 : W1.heap.size = w1.heap.size := by rw [← hW1]; simp [World.setCell]
  have hset : Keeps [w.heap.size] w1 W1 := hW1 ▸ (Keeps.refl [w.heap.size] w1).setCell (p := ⟨w.heap.size, 1, none⟩) (.inl (by simp)) _
  have hnb : w.heap.size ∉ L1.l := fun hm => by have := HN1.out _ hm; rw [World.size_alloc] at this; omega
  have hb1 : Blk W1 w.heap.size 57 #[.int .i64 0, .pointer (some ⟨L1.b, 0, none⟩), .pointer none] := hW1 ▸ (by simpa using HB1.out.set_ 1 (.pointer (some ⟨L1.b, 0, none⟩)))
  have hw1 := HW1.out.keeps hset (fun k hk hm => by simp only [List.mem_singleton] at hm; subst hm; exact hnb hk)
  have HB2 := Lib.hid hb1
  have HW2 := Lib.hid hw1
  have HS1 := Lib.hid hs1
  have HST := Lib.hid hset
  rw [hW1]
  clear hb1 hw1 hs1 hset hnb hW1 c1 f1 HB1 HW1
  rw [rounds_succ]
  go_wp2_with (fail)
  refine (newWay_ok cap _ h1 h2).mono ?_
  rintro e w2 ⟨L2, rfl, hw2, hk2, hn2, hl2⟩
  have hb1 := HB2.out.keeps hk2 (by simp)
  have c2 := hb1.cell 2
  have f2 := hb1.frozen 2
  have HB3 := Lib.hid hb1
  have HW3 := Lib.hid (HW2.out.keeps hk2 (by simp))
  have HW4 := Lib.hid hw2
  have HK2 := Lib.hid hk2
  have HN2 := Lib.hid hn2
  have HL2 := Lib.hid hl2
  clear hb1 hw2 hk2 hn2 hl2
  go_wp2_with (fail)
  rw [rounds_succ]
  go_wp2_with (fail)
  go_ret2
  have hset : Keeps [w.heap.size] w2 (w2.setCell ⟨w.heap.size, 2, none⟩ (.pointer (some ⟨L2.b, 0, none⟩))) := (Keeps.refl [w.heap.size] w2).setCell (p := ⟨w.heap.size, 2, none⟩) (.inl (by simp)) _
  have k1 := HK1.out.size
  have k2 := HK2.out.size
  have s1 := HS1.out
  rw [World.size_alloc] at k1
  have m1 : ∀ k ∈ L1.l, w.heap.size + 1 ≤ k ∧ k < w1.heap.size := fun k hk => ⟨by have := HN1.out k hk; rwa [World.size_alloc] at this, HL1.out k hk⟩
  have m2 : ∀ k ∈ L2.l, w1.heap.size ≤ k := fun k hk => by have := HN2.out k hk; omega
  refine ⟨⟨w.heap.size, L1, L2⟩, rfl, ⟨by simpa [Tu.zero] using HB3.out.set_ 2 (.pointer (some ⟨L2.b, 0, none⟩)), HW3.out.keeps hset ?_, HW4.out.keeps hset ?_, ?_, ?_, ⟨by simp [Tu.zero], .inl rfl, .inl rfl⟩⟩, ?_, ?_⟩
  · intro k hk hm; simp only [List.mem_singleton] at hm; have := (m1 k hk).1; omega
  · intro k hk hm; simp only [List.mem_singleton] at hm; have := m2 k hk; omega
  · simp only [TL.l]
    rw [List.nodup_cons, List.nodup_append]
    refine ⟨fun hm => ?_, HW3.out.nd, HW4.out.nd, fun a ha b hb e => ?_⟩
    · rcases List.mem_append.1 hm with hm | hm
      · have := (m1 _ hm).1; omega
      · have := m2 _ hm; omega
    · have := (m1 a ha).2; have := m2 b hb; omega
  · intro hm
    have := HE.out
    simp only [TL.l, List.mem_cons, List.mem_append] at hm
    rcases hm with hm | hm | hm
    · omega
    · have := (m1 _ hm).1; omega
    · have := m2 _ hm; omega
  · have hA : Keeps [] w w1 := ((Keeps.refl [] w).alloc _).trans HK1.out
    exact ((hA.trans' HST.out (fun i hi => .inr (by simp only [List.mem_singleton] at hi; omega))).trans HK2.out).trans' hset (fun i hi => .inr (by simp only [List.mem_singleton] at hi; omega))
  · intro k hk
    simp only [TL.l, List.mem_cons, List.mem_append] at hk
    rcases hk with hk | hk | hk
    · omega
    · have := (m1 _ hk).1; omega
    · have := m2 _ hk; omega
end Go.Proofs.YtollcbacpoohlaaGreatDoor
