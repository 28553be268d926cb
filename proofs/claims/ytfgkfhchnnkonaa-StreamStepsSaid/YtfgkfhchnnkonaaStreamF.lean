/- The walk of the stream's Least. -/
import Derived.Test.YtfgkfhchnnkonaaStreamE
namespace Go.Proofs.Ytfgkfhchnnkonaa
open Go.RowKit Go.Shelf
attribute [local go_sem] Oper.semAt_some

set_option maxRecDepth 100000 in
set_option maxHeartbeats 1000000 in
theorem least_bad (f t : Int) (hbad : ¬ ((0 ≤ f ∧ f < 7) ∧ (0 ≤ t ∧ t < 7))) (w : World) :
    Calls Try.prog 13 #[.int .i64 f, .int .i64 t] w fun r w' => r = .returned (.tuple #[.int .i64 0, .bool false]) ∧ Keeps [] w w' := by
  obtain ⟨b1, hb1⟩ : ∃ b, decide (0 ≤ f ∧ f < 7) = b := ⟨_, rfl⟩
  obtain ⟨b2, hb2⟩ : ∃ b, decide (0 ≤ t ∧ t < 7) = b := ⟨_, rfl⟩
  have HB1 := Lib.hid hb1
  have HB2 := Lib.hid hb2
  have hor : b1 = false ∨ b2 = false := by
    rcases Classical.em (0 ≤ f ∧ f < 7) with h | h
    · right; rw [← hb2]; exact decide_eq_false (fun h' => hbad ⟨h, h'⟩)
    · left; rw [← hb1]; exact decide_eq_false h
  clear hb1 hb2 hbad
  cases b1 with
  | false =>
    go_enter Try.func13, Try.ntmps13
    go_wp2_with (fail)
    refine (isState_any _ _ HB1.out _).mono ?_
    rintro r w1 ⟨rfl, rfl⟩
    go_wp2_with (fail)
    exact bodyPost_ret (v := .tuple #[.int .i64 0, .bool false]) (by simp [results, Try.results13, go_sem]) rfl ⟨rfl, (((Keeps.refl [] w).alloc _).alloc _).alloc _⟩
  | true =>
    obtain rfl : b2 = false := by simpa using hor
    go_enter Try.func13, Try.ntmps13
    go_wp2_with (fail)
    refine (isState_any _ _ HB1.out _).mono ?_
    rintro r w1 ⟨rfl, rfl⟩
    go_wp2_with (fail)
    refine (isState_any _ _ HB2.out _).mono ?_
    rintro r w1 ⟨rfl, rfl⟩
    go_wp2_with (fail)
    exact bodyPost_ret (v := .tuple #[.int .i64 0, .bool false]) (by simp [results, Try.results13, go_sem]) rfl ⟨rfl, (((Keeps.refl [] w).alloc _).alloc _).alloc _⟩

set_option maxRecDepth 100000 in
set_option maxHeartbeats 2000000 in
theorem least_ok (f t : Nat) (hf : f ≤ 6) (ht : t ≤ 6) (w : World) :
    Calls Try.prog 13 #[.int .i64 f, .int .i64 t] w fun r w' => r = .returned (.tuple #[.int .i64 ((dist f t).getD 0 : Nat), .bool (dist f t).isSome]) ∧ Keeps [] w w' := by
  refine (callsIn_wide (n := 9)).1 ?_
  have h1 : decide (0 ≤ (f : Int) ∧ (f : Int) < 7) = true := by simp; omega
  have h2 : decide (0 ≤ (t : Int) ∧ (t : Int) < 7) = true := by simp; omega
  have HB1 := Lib.hid h1
  have HB2 := Lib.hid h2
  clear h1 h2
  refine callsIn_of_wp_marks Try.func13 rfl trivial ?_ rfl
  simp only [Try.ntmps13, List.size_toArray, List.length_cons, List.length_nil, Nat.reduceAdd, Nat.reduceSub, Array.replicate_succ, Array.replicate_zero, List.push_toArray, List.append_toArray, List.nil_append, List.cons_append]
  gi_wp2_with (fail)
  refine ⟨trivial, (callsIn_wide.2 (isState_any _ _ HB1.out _)).mono ?_⟩
  rintro e w1 ⟨rfl, rfl⟩
  gi_wp2_with (fail)
  refine ⟨trivial, (callsIn_wide.2 (isState_any _ _ HB2.out _)).mono ?_⟩
  rintro e w1 ⟨rfl, rfl⟩
  gi_wp2_with (fail)
  refine ⟨trivial, (callsIn_wide.2 (reached_any _ _)).mono ?_⟩
  rintro e w1 ⟨rfl, rfl⟩
  gi_wp2_with (fail)
  obtain ⟨W0, hW0⟩ : ∃ W0, ((((w.alloc (.cells #[.int .i64 t] 3)).alloc (.cells #[.int .i64 0] 3)).alloc (.cells #[.bool false] 4)).alloc (.cells #[.int .i64 f] 38)) = W0 := ⟨_, rfl⟩
  have hs0 : W0.heap.size = w.heap.size + 4 := by rw [← hW0]; simp
  have hB0 : Below w.heap.size w W0 := by
    rw [← hW0]; exact ((((Below.refl _ w).alloc (Nat.le_refl _) _).alloc (by simp) _).alloc (by simp; omega) _).alloc (by simp; omega) _
  have b0 : Blk W0 w.heap.size 3 #[.int .i64 t] := by rw [← hW0]; exact (((Blk.new w 3 _).alloc _).alloc _).alloc _
  have b1 : Blk W0 (w.heap.size + 1) 3 #[.int .i64 0] := by
    rw [← hW0]; have := Blk.new (w.alloc (.cells #[.int .i64 (t : Int)] 3)) 3 #[.int .i64 0]; rw [World.size_alloc] at this; exact (this.alloc _).alloc _
  have b2 : Blk W0 (w.heap.size + 1 + 1) 4 #[.bool false] := by
    rw [← hW0]; have := Blk.new ((w.alloc (.cells #[.int .i64 (t : Int)] 3)).alloc (.cells #[.int .i64 0] 3)) 4 #[.bool false]; simp only [World.size_alloc] at this; exact this.alloc _
  have b3 : W0.cell? ⟨w.heap.size + 1 + 1 + 1, 0, none⟩ = some (.int .i64 f) := by
    rw [← hW0]; have := Blk.new (((w.alloc (.cells #[.int .i64 (t : Int)] 3)).alloc (.cells #[.int .i64 0] 3)).alloc (.cells #[.bool false] 4)) 38 #[.int .i64 (f : Int)]; simp only [World.size_alloc] at this; exact this.cell 0
  rw [hW0]
  have hfound := found f t hf ht
  have HFO := Lib.hid hfound
  clear hfound HB1 HB2 hW0
  have blk_low : ∀ {A A' : World} {g : Nat} {ty : TypeId} {cs : Array Value}, Blk A g ty cs → g < W0.heap.size → Below W0.heap.size A A' → Blk A' g ty cs := fun h hg hb => (hb.block _ hg).trans h
  refine wpIn_rangeB rfl (by omega) (gf := 29) (lb := #[.pointer (some ⟨w.heap.size + 1 + 1 + 1, 0, none⟩)]) rfl trivial (enters rfl rfl rfl) (reached_stops 8 (w.heap.size + 1 + 1 + 1) f hf W0 b3) (Below.refl _ _) (fun _ => rfl)
    (fun pre W => Below w.heap.size w W ∧ Blk W w.heap.size 3 #[.int .i64 t] ∧ Blk W (w.heap.size + 1) 3 #[.int .i64 0] ∧ Blk W (w.heap.size + 1 + 1) 4 #[.bool false] ∧ pre.find? (fun p => p.1 == t) = none)
    (fun pre W => Below w.heap.size w W ∧ ∃ d : Nat, (pre.find? (fun p => p.1 == t)).map (·.2) = some d ∧ Blk W (w.heap.size + 1) 3 #[.int .i64 (d : Int)] ∧ Blk W (w.heap.size + 1 + 1) 4 #[.bool true])
    (fun s A A' h hb => ⟨h.1.trans (hb.mono (by omega)), blk_low h.2.1 (by omega) hb, blk_low h.2.2.1 (by omega) hb, blk_low h.2.2.2.1 (by omega) hb, h.2.2.2.2⟩)
    (fun s A A' h hb => by
      obtain ⟨h1, d, h2, h3, h4⟩ := h
      exact ⟨h1.trans (hb.mono (by omega)), d, h2, blk_low h3 (by omega) hb, blk_low h4 (by omega) hb⟩)
    ⟨hB0, b0, b1, b2, rfl⟩
    (fun x => { tmps := #[.int .i64 f, .int .i64 t, undef, .pointer (some ⟨w.heap.size, 0, none⟩), .pointer (some ⟨w.heap.size + 1, 0, none⟩), .pointer (some ⟨w.heap.size + 1 + 1, 0, none⟩), .int .i64 x.1, .int .i64 x.2, .int .i64 f, .bool true, .bool false, .bool false, .int .i64 t, .bool true, .bool false, .bool false, .int .i64 f, .func (.func 29) #[] #[.pointer (some ⟨w.heap.size + 1 + 1 + 1, 0, none⟩)], .int .i64 x.1, .int .i64 x.2, undef, undef, undef, undef], defers := [] }) ?assign ?body ?done ?stop
  case assign =>
    intro l x W K hK
    unfold pairV
    gi_wp2
    exact hK
  case body =>
    rintro l pre x W ⟨hB, c0, c1, c2, hnone⟩ hlt hsz
    have d0 : W.cell? ⟨w.heap.size, 0, none⟩ = some (.int .i64 t) := c0.cell 0
    have d1 : W.cell? ⟨w.heap.size + 1, 0, none⟩ = some (.int .i64 0) := c1.cell 0
    have d2 : W.cell? ⟨w.heap.size + 1 + 1, 0, none⟩ = some (.bool false) := c2.cell 0
    have e1 := c1.frozen 0
    have e2 := c2.frozen 0
    have HI := Lib.hid (And.intro hB (And.intro c0 (And.intro c1 (And.intro c2 hnone))))
    clear hB c0 c1 c2 hnone
    by_cases hx : x.1 = t
    · have hxb : ((x.1 : Int) == (t : Int)) = true := by simp [hx]
      have HX := Lib.hid hx
      clear hx
      gi_wp2
      obtain ⟨hB, c0, c1, c2, hnone⟩ := HI.out
      have hx := HX.out
      refine ⟨(FarK.setCell (p := ⟨w.heap.size + 1, 0, none⟩) (by dsimp only; omega) W _).trans (FarK.setCell (p := ⟨w.heap.size + 1 + 1, 0, none⟩) (by dsimp only; omega) _ _), (hB.setCell (p := ⟨w.heap.size + 1, 0, none⟩) (by dsimp only; omega) _).setCell (p := ⟨w.heap.size + 1 + 1, 0, none⟩) (by dsimp only; omega) _, x.2, by simp [List.find?_append, hnone, hx], ?_, ?_⟩
      · exact ((c1.set_ 0 (.int .i64 (x.2 : Int))).far (p := ⟨w.heap.size + 1 + 1, 0, none⟩) (by dsimp only; omega) _)
      · exact (c2.far (p := ⟨w.heap.size + 1, 0, none⟩) (by dsimp only; omega) _).set_ 0 (.bool true)
    · have hxb : ((x.1 : Int) == (t : Int)) = false := by simp; omega
      have HX := Lib.hid hx
      clear hx
      gi_wp2
      obtain ⟨hB, c0, c1, c2, hnone⟩ := HI.out
      exact ⟨FarK.refl _ _, hB, c0, c1, c2, by simp [List.find?_append, hnone, HX.out]⟩
  case done =>
    rintro D ys W hD rfl ⟨hB, c0, c1, c2, hnone⟩ hK
    have hDl : D < W.heap.size := (Array.getElem?_eq_some_iff.1 hK).1
    have d1 : W.cell? ⟨w.heap.size + 1, 0, none⟩ = some (.int .i64 0) := c1.cell 0
    have d2 : W.cell? ⟨w.heap.size + 1 + 1, 0, none⟩ = some (.bool false) := c2.cell 0
    have e1 := c1.frozen 0
    have e2 := c2.frozen 0
    have hdn : dist f t = none := by rw [← HFO.out, hnone]; rfl
    have HC1 := Lib.hid ((c1.set_ 0 (.int .i64 0)).far (p := ⟨w.heap.size + 1 + 1, 0, none⟩) (by dsimp only; omega) (.bool false))
    have HC2 := Lib.hid ((c2.far (p := ⟨w.heap.size + 1, 0, none⟩) (by dsimp only; omega) (.int .i64 0)).set_ 0 (.bool false))
    have HB := Lib.hid ((hB.setCell (p := ⟨w.heap.size + 1, 0, none⟩) (by dsimp only; omega) (.int .i64 0)).setCell (p := ⟨w.heap.size + 1 + 1, 0, none⟩) (by dsimp only; omega) (.bool false))
    have hK1 : ((W.setCell ⟨w.heap.size + 1, 0, none⟩ (.int .i64 0)).setCell ⟨w.heap.size + 1 + 1, 0, none⟩ (.bool false)).heap[D]? = some (.deferred (some [])) := by
      rw [Below.heap_setCell _ _ _ _ (by dsimp only; omega), Below.heap_setCell _ _ _ _ (by dsimp only; omega)]; exact hK
    clear b0 b1 b2 b3 c0 c1 c2 hnone hB hK
    gi_wp2
    refine ⟨by simp, .inl ⟨_, _, rfl, run_takeDeferred hK1, ?_⟩⟩
    have q1 := Blk.cell (show Blk (World.putObj _ D (.deferred none)) _ _ _ from (World.putObj_heap_other (by omega)).trans HC1.out) 0
    have q2 := Blk.cell (show Blk (World.putObj _ D (.deferred none)) _ _ _ from (World.putObj_heap_other (by omega)).trans HC2.out) 0
    have q1 : _ = some (Value.int .i64 0) := q1
    have q2 : _ = some (Value.bool false) := q2
    refine ⟨.tuple #[.int .i64 0, .bool false], by simp [results, Try.results13, go_sem, q1, q2], by rw [hdn]; rfl, Keeps.of_below (HB.out.trans (belowK_b (n₀ := w.heap.size) (w := w) (Nat.le_refl _) _ D _ _ (by omega) hK1 rfl rfl)) []⟩
  case stop =>
    rintro D pre W hD hpre ⟨hB, d, hd, c1, c2⟩ hK
    have hDl : D < W.heap.size := (Array.getElem?_eq_some_iff.1 hK).1
    have hdn : dist f t = some d := by
      obtain ⟨tl, htl⟩ := hpre
      rw [← HFO.out, ← htl, List.find?_append]
      cases hp : pre.find? (fun p => p.1 == t) with
      | none => rw [hp] at hd; cases hd
      | some q => rw [hp] at hd; exact hd
    clear b0 b1 b2 b3
    gi_wp2
    refine ⟨by simp, .inl ⟨_, _, rfl, run_takeDeferred hK, ?_⟩⟩
    have q1 := Blk.cell (show Blk (World.putObj W D (.deferred none)) _ _ _ from (World.putObj_heap_other (by omega)).trans c1) 0
    have q2 := Blk.cell (show Blk (World.putObj W D (.deferred none)) _ _ _ from (World.putObj_heap_other (by omega)).trans c2) 0
    have q1 : _ = some (Value.int .i64 (d : Int)) := q1
    have q2 : _ = some (Value.bool true) := q2
    refine ⟨.tuple #[.int .i64 d, .bool true], by simp [results, Try.results13, go_sem, q1, q2], by rw [hdn]; rfl, Keeps.of_below (hB.trans (belowK_b (n₀ := w.heap.size) (w := w) (Nat.le_refl _) _ D _ _ (by omega) hK rfl rfl)) []⟩
end Go.Proofs.Ytfgkfhchnnkonaa
