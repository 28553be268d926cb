/- The walks of what must be of a pool. -/
import Derived.Test.YtbcppmcjbcnlbaaDoorSnapC
namespace Go.Proofs.YtbcppmcjbcnlbaaDoor
open Go.RowKit Go.Shelf
attribute [local go_sem] Oper.semAt_some
attribute [local go_sem ↓] Go.wp_at_zero Go.wp_at_succ

theorem cell_putD {W : World} {D rb : Nat} {t : TypeId} {v : Value} (h : Blk W rb t #[v]) (hne : rb ≠ D) : (W.putObj D (.deferred none)).cell? ⟨rb, 0, none⟩ = some v :=
  Blk.cell (show Blk (W.putObj D (.deferred none)) rb t #[v] from (World.putObj_heap_other hne).trans h) 0
theorem whole_snoc' (L : List Sn) (k : Nat) (h : k < L.length) : wholeB (L.take (k + 1)) = (wholeB (L.take k) && itemsB L[k].items) := by
  unfold wholeB; rw [List.take_succ_eq_append_getElem h, List.all_append]; simp
theorem whole_bad' (L : List Sn) (k : Nat) (h : k < L.length) (hb : itemsB L[k].items = false) : wholeB L = false := by
  apply Bool.eq_false_iff.2
  intro ha
  unfold wholeB at ha
  rw [List.all_eq_true] at ha
  have := ha L[k] (List.getElem_mem _)
  rw [hb] at this
  cases this
theorem sorted_app : ∀ (A B : List Sn) (last : Int), sortedB last (A ++ B) = (sortedB last A && sortedB ((A.getLast?.map (·.used)).getD last) B)
  | [], B, last => by simp [sortedB]
  | s :: A, B, last => by
    rw [List.cons_append, sortedB, sortedB, sorted_app A B s.used, Bool.and_assoc]
    congr 2
    rw [List.getLast?_cons]
    cases A.getLast? <;> rfl
theorem sorted_snoc' (L : List Sn) (k : Nat) (h : k < L.length) : sortedB 0 (L.take (k + 1)) = (sortedB 0 (L.take k) && usedB (lastU (L.take k)) L[k]) := by
  rw [List.take_succ_eq_append_getElem h, sorted_app]
  congr 1
  simp [sortedB, lastU]
theorem sorted_bad' (L : List Sn) (k : Nat) (h : k < L.length) (hb : usedB (lastU (L.take k)) L[k] = false) : sortedB 0 L = false := by
  have e : L = L.take (k + 1) ++ L.drop (k + 1) := (List.take_append_drop _ _).symm
  rw [e, sorted_app, sorted_snoc' L k h, hb]; simp
def curs (l : List Sn) : List Int := l.map (·.cur)
theorem apart_app (next : Int) : ∀ (A B : List Sn) (met : List Int), apartB next met (A ++ B) = (apartB next met A && apartB next (met ++ curs A) B)
  | [], B, met => by simp [apartB, curs]
  | s :: A, B, met => by
    rw [List.cons_append, apartB, apartB, apart_app next A B, Bool.and_assoc]
    simp [curs]
theorem apart_snoc' (next : Int) (L : List Sn) (k : Nat) (h : k < L.length) : apartB next [] (L.take (k + 1)) = (apartB next [] (L.take k) && curB next (curs (L.take k)) L[k]) := by
  rw [List.take_succ_eq_append_getElem h, apart_app]
  simp [apartB]
theorem apart_bad' (next : Int) (L : List Sn) (k : Nat) (h : k < L.length) (hb : curB next (curs (L.take k)) L[k] = false) : apartB next [] L = false := by
  have e : L = L.take (k + 1) ++ L.drop (k + 1) := (List.take_append_drop _ _).symm
  rw [e, apart_app, apart_snoc' next L k h, hb]; simp
theorem whole_snoc {L : List Sn} {k : Nat} {s : Sn} (h : L[k]? = some s) : wholeB (L.take (k + 1)) = (wholeB (L.take k) && itemsB s.items) := by
  obtain ⟨hk, rfl⟩ := List.getElem?_eq_some_iff.1 h; exact whole_snoc' L k hk
theorem whole_bad {L : List Sn} {k : Nat} {s : Sn} (h : L[k]? = some s) (hb : itemsB s.items = false) : wholeB L = false := by
  obtain ⟨hk, rfl⟩ := List.getElem?_eq_some_iff.1 h; exact whole_bad' L k hk hb
theorem sorted_snoc {L : List Sn} {k : Nat} {s : Sn} (h : L[k]? = some s) : sortedB 0 (L.take (k + 1)) = (sortedB 0 (L.take k) && usedB (lastU (L.take k)) s) := by
  obtain ⟨hk, rfl⟩ := List.getElem?_eq_some_iff.1 h; exact sorted_snoc' L k hk
theorem sorted_bad {L : List Sn} {k : Nat} {s : Sn} (h : L[k]? = some s) (hb : usedB (lastU (L.take k)) s = false) : sortedB 0 L = false := by
  obtain ⟨hk, rfl⟩ := List.getElem?_eq_some_iff.1 h; exact sorted_bad' L k hk hb
theorem apart_snoc (next : Int) {L : List Sn} {k : Nat} {s : Sn} (h : L[k]? = some s) : apartB next [] (L.take (k + 1)) = (apartB next [] (L.take k) && curB next (curs (L.take k)) s) := by
  obtain ⟨hk, rfl⟩ := List.getElem?_eq_some_iff.1 h; exact apart_snoc' next L k hk
theorem apart_bad (next : Int) {L : List Sn} {k : Nat} {s : Sn} (h : L[k]? = some s) (hb : curB next (curs (L.take k)) s = false) : apartB next [] L = false := by
  obtain ⟨hk, rfl⟩ := List.getElem?_eq_some_iff.1 h; exact apart_bad' next L k hk hb

set_option maxRecDepth 100000 in
theorem counted_any (a : Option Addr) (c : Nat) (p : Po) (n : Nat) (hn : p.l.length = n) (hl : n ≤ 1000000) (b : Bool) (hb : countedB p = b) (w : World) :
    Calls Tryd.prog 33 #[.agg #[.slice a n c, .int .i64 p.next]] w fun r w' => r = .returned (.bool b) ∧ Keeps [] w w' := by
  unfold countedB at hb
  rw [hn] at hb
  obtain ⟨x, hx⟩ : ∃ x, p.next = x := ⟨_, rfl⟩
  rw [hx] at hb ⊢
  clear hx hn
  have HB := Lib.hid hb
  clear hb
  by_cases h1 : 1 ≤ x
  · by_cases h2 : x ≤ 1000000000000
    · by_cases h3 : n ≤ 3
      · obtain rfl : b = true := by rw [← HB.out]; simp [h1, h2, h3]
        have h3' : (n : Int) ≤ 3 := by omega
        go_enter Tryd.func33, Tryd.ntmps33
        go_wp2
        go_ret
        exact ⟨rfl, (Keeps.refl [] w).alloc _⟩
      · obtain rfl : b = false := by rw [← HB.out]; simp; omega
        have h3' : ¬ (n : Int) ≤ 3 := by omega
        go_enter Tryd.func33, Tryd.ntmps33
        go_wp2
        go_ret
        exact ⟨rfl, (Keeps.refl [] w).alloc _⟩
    · obtain rfl : b = false := by rw [← HB.out]; simp; omega
      go_enter Tryd.func33, Tryd.ntmps33
      go_wp2
      go_ret
      exact ⟨rfl, (Keeps.refl [] w).alloc _⟩
  · obtain rfl : b = false := by rw [← HB.out]; simp; omega
    go_enter Tryd.func33, Tryd.ntmps33
    go_wp2
    go_ret
    exact ⟨rfl, (Keeps.refl [] w).alloc _⟩

set_option maxRecDepth 100000 in
set_option maxHeartbeats 2000000 in
theorem areWhole_any (a : Option Addr) (c : Nat) (next : Int) (V : List SV) (L : List Sn) (hV : V.length ≤ 1000000) (w : World) (hR : RowIn w a V) (hM : Mt w V L) (B : Bool) (hB : wholeB L = B) :
    Calls Tryd.prog 36 #[.agg #[.slice a V.length c, .int .i64 next]] w fun r w' => r = .returned (.bool B) ∧ Keeps [] w w' := by
  refine (callsIn_wide (n := 9)).1 ?_
  have HBB := Lib.hid hB
  have HR := Lib.hid hR
  have HM := Lib.hid hM
  obtain ⟨N, hN⟩ : ∃ N, V.length = N := ⟨_, rfl⟩
  have HN := Lib.hid hN
  rw [hN] at hV ⊢
  clear hB hR hM hN
  refine callsIn_of_wp_marks Tryd.func36 rfl trivial ?_ rfl
  simp only [Tryd.ntmps36, List.size_toArray, List.length_cons, List.length_nil, Nat.reduceAdd, Nat.reduceSub, Array.replicate_succ, Array.replicate_zero, List.push_toArray, List.append_toArray, List.nil_append, List.cons_append]
  gi_wp2_with (fail)
  refine ⟨trivial, (callsIn_wide.2 (snaps_any _ _ _ _ _)).mono ?_⟩
  rintro e w1 ⟨rfl, rfl⟩
  gi_wp2_with (fail)
  obtain ⟨W0, hW0⟩ : ∃ W0, (((w.alloc (.cells #[.slice a N c, .int .i64 next] 59)).alloc (.cells #[.bool false] 4)).alloc (.cells #[.slice a N c, .int .i64 next] 59)) = W0 := ⟨_, rfl⟩
  have hs0 : W0.heap.size = w.heap.size + 3 := by rw [← hW0]; simp
  have hB0 : Below w.heap.size w W0 := by
    rw [← hW0]; exact ((((Below.refl _ w).alloc (Nat.le_refl _) _).alloc (by simp; try omega) _).alloc (by simp; try omega) _)
  have b1 : Blk W0 (w.heap.size + 1) 4 #[.bool false] := by
    rw [← hW0]; exact ((blk_at _ _ _ _ (by simp)).alloc _)
  have bp : W0.cell? ⟨w.heap.size + 1 + 1, 0, none⟩ = some (.slice a V.length c) := by
    rw [← hW0, HN.out]; exact (blk_at _ 59 _ _ (by simp)).cell 0
  rw [hW0]
  clear hW0
  try clear hmm
  refine wpIn_rangeC rfl (by omega) (gf := 54) (lb := #[.pointer (some ⟨w.heap.size + 1 + 1, 0, none⟩)]) rfl trivial (enters_of Tryd.func54 (by kernel_rfl) rfl) (snaps_seq 8 (w.heap.size + 1 + 1) a c V (by rw [HN.out]; exact hV) W0 bp) (Below.refl _ _) (fun _ => rfl)
    (fun pre A => Below w.heap.size w A ∧ Blk A (w.heap.size + 1) 4 #[.bool false] ∧ wholeB (L.take pre.length) = true) (fun pre A => Below w.heap.size w A ∧ Blk A (w.heap.size + 1) 4 #[.bool false] ∧ wholeB L = false)
    (fun s A A' h hb => ⟨h.1.trans (hb.mono (by omega)), blk_low h.2.1 (by omega) hb, h.2.2⟩) (fun s A A' h hb => ⟨h.1.trans (hb.mono (by omega)), blk_low h.2.1 (by omega) hb, h.2.2⟩)
    (fun s A h => HR.out.keeps (Keeps.of_below h.1 [])) ⟨hB0, b1, rfl⟩
    (fun x b => { tmps := #[.agg #[.slice a N c, .int .i64 next], .pointer (some ⟨w.heap.size, 0, none⟩), .pointer (some ⟨w.heap.size + 1, 0, none⟩), undef, .pointer (some ⟨b, 0, none⟩), .agg #[.slice a N c, .int .i64 next], .func (.func 54) #[] #[.pointer (some ⟨w.heap.size + 1 + 1, 0, none⟩)], .int .i64 (x.2 : Int), .agg #[.int .i64 x.1.cur, .slice x.1.ia x.1.il x.1.ic, .int .i64 x.1.used], undef, undef, undef, undef], defers := [] })
    (fun x => .cells #[.int .i64 x.1.cur, .slice x.1.ia x.1.il x.1.ic, .int .i64 x.1.used] 39) ?assign ?body ?done ?stop
  case assign =>
    intro l x W K hK
    unfold itemS
    gi_wp2
    exact hK
  case body =>
    rintro l pre x b W ⟨hB, hI⟩ hpre hb hbx
    obtain ⟨hk, hpr, rfl⟩ := zip_pre hpre
    obtain ⟨k, hkk⟩ : ∃ k, pre.length = k := ⟨_, rfl⟩
    have hkL : k < L.length := by rw [← HM.out.len, ← hkk]; exact hk
    have hm0 := HM.out.get pre.length hk (by rw [hkk]; exact hkL)
    obtain ⟨y, hy⟩ : ∃ y, V[pre.length] = y := ⟨_, rfl⟩
    obtain ⟨s, hs⟩ : ∃ s, L[k] = s := ⟨_, rfl⟩
    have hm : Mt1 w y s := by
      simp only [hkk] at hm0 hy
      rw [hy, hs] at hm0; exact hm0
    clear hm0
    have hb2 : Blk W b 39 #[.int .i64 y.cur, .slice y.ia y.il y.ic, .int .i64 y.used] := by
      have := hbx
      simp only [hy] at this
      exact this
    simp only [hy]
    have hlen1 : (pre ++ [(y, pre.length)]).length = k + 1 := by rw [List.length_append, hkk]; rfl
    rw [hy] at hpre
    clear hbx
    have HS : Hid (L[k]? = some s) := Lib.hid (by rw [List.getElem?_eq_getElem hkL, hs])
    have HL1 := Lib.hid hlen1
    have HKK := Lib.hid hkk
    have hs1 : w.heap.size + 3 ≤ W0.heap.size := by omega
    clear hs hlen1 hpr hk hpre hkL hy hkk hs0 hB0 bp
    have HW := Lib.hid (hm.2.2.2.keeps (Keeps.of_below hB []))
    have hil := hm.2.2.1
    have d1 := hb2.cell 1
    obtain ⟨c1, hall⟩ := hI
    have HI := Lib.hid hall
    have HB := Lib.hid hB
    have HC := Lib.hid c1
    have HIL := Lib.hid hil
    clear hm hB c1 hall hb2 hil
    have HWN := HW.out.small
    rw [HIL.out] at d1
    cases hq : itemsB s.items with
    | true =>
      have HQ := Lib.hid hq
      clear hq
      gi_wp2_with (fail)
      refine ⟨trivial, (callsIn_wide.2 (areItems_any _ _ s.items true HQ.out _ HW.out.at_ HW.out.small HW.out.size)).mono ?_⟩
      rintro e w2 ⟨rfl, hk⟩
      gi_wp2
      refine ⟨FarK.of_keeps hk (by simp), HB.out.trans (hk.below HB.out.size (by simp)), HC.out.keeps hk (by simp), ?_⟩
      rw [HL1.out, whole_snoc HS.out, HQ.out, ← HKK.out, HI.out]; rfl
    | false =>
      have HQ := Lib.hid hq
      clear hq
      gi_wp2_with (fail)
      refine ⟨trivial, (callsIn_wide.2 (areItems_any _ _ s.items false HQ.out _ HW.out.at_ HW.out.small HW.out.size)).mono ?_⟩
      rintro e w2 ⟨rfl, hk⟩
      have hc2 := HC.out.keeps hk (by simp)
      have e1 : w2.cell? ⟨w.heap.size + 1, 0, none⟩ = some (.bool false) := hc2.cell 0
      have f1 := hc2.frozen 0
      have HC2 := Lib.hid hc2
      have HK2 := Lib.hid hk
      clear hk hc2
      gi_wp2
      exact ⟨(FarK.of_keeps HK2.out (by simp)).trans (FarK.setCell (p := ⟨w.heap.size + 1, 0, none⟩) (by dsimp only; omega) _ _), (HB.out.trans (HK2.out.below HB.out.size (by simp))).setCell (p := ⟨w.heap.size + 1, 0, none⟩) (by dsimp only; omega) _, HC2.out.set_ 0 _, whole_bad HS.out HQ.out⟩
  case done =>
    rintro D W hD ⟨hB, hI⟩ hK
    have hD2 : w.heap.size + 3 ≤ D := by omega
    have hzl : V.zipIdx.length = L.length := by rw [List.length_zipIdx]; exact HM.out.len
    obtain rfl : B = true := by rw [← HBB.out]; have := hI.2; rwa [hzl, List.take_of_length_le (Nat.le_refl _)] at this
    have c1 := hI.1
    have e1 : W.cell? ⟨w.heap.size + 1, 0, none⟩ = some (.bool false) := c1.cell 0
    have f1 := c1.frozen 0
    have HC := Lib.hid (c1.set_ 0 (.bool true))
    have HB := Lib.hid (hB.setCell (p := ⟨w.heap.size + 1, 0, none⟩) (by dsimp only; omega) (.bool true))
    have hK1 : (W.setCell ⟨w.heap.size + 1, 0, none⟩ (.bool true)).heap[D]? = some (.deferred (some [])) := by
      rw [Below.heap_setCell _ _ _ _ (by dsimp only; omega)]; exact hK
    clear hI c1 hB hK hs0 hB0 hzl
    gi_wp2
    refine ⟨by simp, .inl ⟨_, _, rfl, run_takeDeferred hK1, ?_⟩⟩
    have q1 := cell_putD HC.out (D := D) (by omega)
    have q1 : _ = some (Value.bool true) := q1
    refine ⟨.bool true, by simp [results, Tryd.results36, go_sem, q1], rfl, Keeps.of_below (HB.out.trans (belowK_b (n₀ := w.heap.size) (w := w) (Nat.le_refl _) _ D _ _ (by omega) hK1 rfl rfl)) []⟩
  case stop =>
    rintro D pre W hD _ ⟨hB, c2, hx⟩ hK
    have hD2 : w.heap.size + 3 ≤ D := by omega
    obtain rfl : B = false := by rw [← HBB.out]; exact hx
    have HB := Lib.hid hB
    clear hB hs0 hB0
    gi_wp2
    refine ⟨by simp, .inl ⟨_, _, rfl, run_takeDeferred hK, ?_⟩⟩
    have q1 := cell_putD c2 (D := D) (by omega)
    refine ⟨.bool false, by simp [results, Tryd.results36, go_sem, q1], rfl, Keeps.of_below (HB.out.trans (belowK_b (n₀ := w.heap.size) (w := w) (Nat.le_refl _) _ D _ _ (by omega) hK rfl rfl)) []⟩

/-- At block b lies the set of these numbers. -/
def SetAt (A : World) (b : Nat) (met : List Int) : Prop := ∃ es c, A.heap[b]? = some (.map es c) ∧ es.toList.map (fun e => (e.key, e.val)) = met.map fun m => (Value.int .i64 m, Value.bool true)
theorem set_find (k : Int) : ∀ (es : List MapEntry) (met : List Int) (i : Nat), es.map (fun e => (e.key, e.val)) = met.map (fun m => (Value.int .i64 m, Value.bool true)) →
    (met.contains k = true ∧ ∃ j, Instr.findNow (.int .i64) (.int .i64 k) es i = some (some (j, .bool true))) ∨ (met.contains k = false ∧ Instr.findNow (.int .i64) (.int .i64 k) es i = some none)
  | [], [], _, _ => .inr ⟨rfl, rfl⟩
  | e :: es, m :: met, i, h => by
    rw [List.map_cons, List.map_cons] at h
    injection h with h1 h2
    injection h1 with hk hv
    by_cases hkm : k = m
    · subst hkm
      exact .inl ⟨by simp, i, by simp [Instr.findNow, hk, hv, Instr.sameNow]⟩
    · have hn : (k == m) = false := by simp [hkm]
      rcases set_find k es met (i + 1) h2 with ⟨h3, j, h4⟩ | ⟨h3, h4⟩
      · exact .inl ⟨by rw [List.contains_cons, h3]; simp, j, by simp [Instr.findNow, hk, Instr.sameNow, hn, h4]⟩
      · exact .inr ⟨by rw [List.contains_cons, h3]; simp [hkm], by simp [Instr.findNow, hk, Instr.sameNow, hn, h4]⟩
  | [], _ :: _, _, h => by cases h
  | _ :: _, [], _, h => by cases h
theorem SetAt.look {A : World} {b : Nat} {met : List Int} (h : SetAt A b met) (k : Int) : (Instr.lookup 74 (.map (some b)) (.int .i64 k) false).run Tryd.prog A = .ok (.bool (met.contains k)) A := by
  obtain ⟨es, c, hb, he⟩ := h
  have hz : (zeroValue 4).run Tryd.prog A = .ok (.bool false) A := by kernel_rfl
  rcases set_find k es.toList met 0 he with ⟨h1, j, h2⟩ | ⟨h1, h2⟩
  · rw [(run_lookup_hit Tryd.underlying74 Tryd.underlying3 hb (by simp [MapKept.IsKey]) h2).2, h1]
  · rw [(run_lookup_miss Tryd.underlying74 Tryd.underlying3 hb (by simp [MapKept.IsKey]) h2 hz).2, h1]
theorem SetAt.update {A : World} {b : Nat} {met : List Int} (h : SetAt A b met) (k : Int) (hk : met.contains k = false) : ∃ o, (Instr.mapUpdate 74 (.map (some b)) (.int .i64 k) (.bool true)).run Tryd.prog A = .ok () (A.putObj b o) ∧ SetAt (A.putObj b o) b (met ++ [k]) := by
  obtain ⟨es, c, hb, he⟩ := h
  rcases set_find k es.toList met 0 he with ⟨h1, _⟩ | ⟨_, h2⟩
  · rw [hk] at h1; cases h1
  · refine ⟨_, run_mapUpdate_fresh Tryd.underlying74 Tryd.underlying3 hb (by simp [MapKept.IsKey]) h2, _, _, World.putObj_heap_same (Array.getElem?_eq_some_iff.1 hb).1, ?_⟩
    simp [he]
theorem SetAt.low {B : Nat} {A A' : World} {b : Nat} {met : List Int} (h : SetAt A b met) (hg : b < B) (hb : Below B A A') : SetAt A' b met := by
  obtain ⟨es, c, h1, h2⟩ := h
  exact ⟨es, c, (hb.block _ hg).trans h1, h2⟩
theorem SetAt.keeps {A A' : World} {b : Nat} {met : List Int} (h : SetAt A b met) (hk : Keeps [] A A') : SetAt A' b met := by
  obtain ⟨es, c, h1, h2⟩ := h
  exact ⟨es, c, (hk.block _ (Array.getElem?_eq_some_iff.1 h1).1 (by simp)).trans h1, h2⟩
theorem lastU_take {L : List Sn} {k : Nat} {s : Sn} (h : L[k]? = some s) : lastU (L.take (k + 1)) = s.used := by
  obtain ⟨hk, rfl⟩ := List.getElem?_eq_some_iff.1 h
  rw [List.take_succ_eq_append_getElem hk, lastU_snoc]
theorem cur_take {L : List Sn} {k : Nat} {s : Sn} (h : L[k]? = some s) : curs (L.take (k + 1)) = curs (L.take k) ++ [s.cur] := by
  obtain ⟨hk, rfl⟩ := List.getElem?_eq_some_iff.1 h
  unfold curs; rw [List.take_succ_eq_append_getElem hk, List.map_append]; rfl

set_option maxRecDepth 100000 in
set_option maxHeartbeats 2000000 in
theorem areSorted_any (a : Option Addr) (c : Nat) (next : Int) (V : List SV) (L : List Sn) (hV : V.length ≤ 1000000) (w : World) (hR : RowIn w a V) (hM : Mt w V L) (B : Bool) (hB : sortedB 0 L = B) :
    Calls Tryd.prog 35 #[.agg #[.slice a V.length c, .int .i64 next]] w fun r w' => r = .returned (.bool B) ∧ Keeps [] w w' := by
  refine (callsIn_wide (n := 9)).1 ?_
  have HBB := Lib.hid hB
  have HR := Lib.hid hR
  have HM := Lib.hid hM
  obtain ⟨N, hN⟩ : ∃ N, V.length = N := ⟨_, rfl⟩
  have HN := Lib.hid hN
  rw [hN] at hV ⊢
  clear hB hR hM hN
  refine callsIn_of_wp_marks Tryd.func35 rfl trivial ?_ rfl
  simp only [Tryd.ntmps35, List.size_toArray, List.length_cons, List.length_nil, Nat.reduceAdd, Nat.reduceSub, Array.replicate_succ, Array.replicate_zero, List.push_toArray, List.append_toArray, List.nil_append, List.cons_append]
  gi_wp2_with (fail)
  refine ⟨trivial, (callsIn_wide.2 (snaps_any _ _ _ _ _)).mono ?_⟩
  rintro e w1 ⟨rfl, rfl⟩
  gi_wp2_with (fail)
  obtain ⟨W0, hW0⟩ : ∃ W0, ((((w.alloc (.cells #[.slice a N c, .int .i64 next] 59)).alloc (.cells #[.bool false] 4)).alloc (.cells #[.int .i64 0] 3)).alloc (.cells #[.slice a N c, .int .i64 next] 59)) = W0 := ⟨_, rfl⟩
  have hs0 : W0.heap.size = w.heap.size + 4 := by rw [← hW0]; simp
  have hB0 : Below w.heap.size w W0 := by
    rw [← hW0]; exact (((((Below.refl _ w).alloc (Nat.le_refl _) _).alloc (by simp; try omega) _).alloc (by simp; try omega) _).alloc (by simp; try omega) _)
  have b1 : Blk W0 (w.heap.size + 1) 4 #[.bool false] := by
    rw [← hW0]; exact (((blk_at _ _ _ _ (by simp)).alloc _).alloc _)
  have b3 : Blk W0 (w.heap.size + 1 + 1) 3 #[.int .i64 0] := by
    rw [← hW0]; exact ((blk_at _ _ _ _ (by simp)).alloc _)
  have bp : W0.cell? ⟨w.heap.size + 1 + 1 + 1, 0, none⟩ = some (.slice a V.length c) := by
    rw [← hW0, HN.out]; exact (blk_at _ 59 _ _ (by simp)).cell 0
  rw [hW0]
  clear hW0
  try clear hmm
  refine wpIn_rangeC rfl (by omega) (gf := 54) (lb := #[.pointer (some ⟨w.heap.size + 1 + 1 + 1, 0, none⟩)]) rfl trivial (enters_of Tryd.func54 (by kernel_rfl) rfl) (snaps_seq 8 (w.heap.size + 1 + 1 + 1) a c V (by rw [HN.out]; exact hV) W0 bp) (Below.refl _ _) (fun _ => rfl)
    (fun pre A => Below w.heap.size w A ∧ Blk A (w.heap.size + 1) 4 #[.bool false] ∧ Blk A (w.heap.size + 1 + 1) 3 #[.int .i64 (lastU (L.take pre.length))] ∧ sortedB 0 (L.take pre.length) = true) (fun pre A => Below w.heap.size w A ∧ Blk A (w.heap.size + 1) 4 #[.bool false] ∧ sortedB 0 L = false)
    (fun s A A' h hb => ⟨h.1.trans (hb.mono (by omega)), blk_low h.2.1 (by omega) hb, blk_low h.2.2.1 (by omega) hb, h.2.2.2⟩) (fun s A A' h hb => ⟨h.1.trans (hb.mono (by omega)), blk_low h.2.1 (by omega) hb, h.2.2⟩)
    (fun s A h => HR.out.keeps (Keeps.of_below h.1 [])) ⟨hB0, b1, b3, rfl⟩
    (fun x b => { tmps := #[.agg #[.slice a N c, .int .i64 next], .pointer (some ⟨w.heap.size, 0, none⟩), .pointer (some ⟨w.heap.size + 1, 0, none⟩), .pointer (some ⟨w.heap.size + 1 + 1, 0, none⟩), undef, .pointer (some ⟨b, 0, none⟩), .agg #[.slice a N c, .int .i64 next], .func (.func 54) #[] #[.pointer (some ⟨w.heap.size + 1 + 1 + 1, 0, none⟩)], .int .i64 (x.2 : Int), .agg #[.int .i64 x.1.cur, .slice x.1.ia x.1.il x.1.ic, .int .i64 x.1.used], undef, undef, undef, undef, undef, undef, undef, undef, undef, undef, undef], defers := [] })
    (fun x => .cells #[.int .i64 x.1.cur, .slice x.1.ia x.1.il x.1.ic, .int .i64 x.1.used] 39) ?assign ?body ?done ?stop
  case assign =>
    intro l x W K hK
    unfold itemS
    gi_wp2
    exact hK
  case body =>
    rintro l pre x b W ⟨hB, hI⟩ hpre hb hbx
    obtain ⟨hk, hpr, rfl⟩ := zip_pre hpre
    obtain ⟨k, hkk⟩ : ∃ k, pre.length = k := ⟨_, rfl⟩
    have hkL : k < L.length := by rw [← HM.out.len, ← hkk]; exact hk
    have hm0 := HM.out.get pre.length hk (by rw [hkk]; exact hkL)
    obtain ⟨y, hy⟩ : ∃ y, V[pre.length] = y := ⟨_, rfl⟩
    obtain ⟨s, hs⟩ : ∃ s, L[k] = s := ⟨_, rfl⟩
    have hm : Mt1 w y s := by
      simp only [hkk] at hm0 hy
      rw [hy, hs] at hm0; exact hm0
    clear hm0
    have hb2 : Blk W b 39 #[.int .i64 y.cur, .slice y.ia y.il y.ic, .int .i64 y.used] := by
      have := hbx
      simp only [hy] at this
      exact this
    simp only [hy]
    have hlen1 : (pre ++ [(y, pre.length)]).length = k + 1 := by rw [List.length_append, hkk]; rfl
    rw [hy] at hpre
    clear hbx
    have HS : Hid (L[k]? = some s) := Lib.hid (by rw [List.getElem?_eq_getElem hkL, hs])
    have HL1 := Lib.hid hlen1
    have HKK := Lib.hid hkk
    have hs1 : w.heap.size + 4 ≤ W0.heap.size := by omega
    clear hs hlen1 hpr hk hpre hkL hy hkk hs0 hB0 bp
    have hus := hm.2.1
    obtain ⟨c1, c3, hall⟩ := hI
    obtain ⟨u, hu⟩ : ∃ u, y.used = u := ⟨_, rfl⟩
    obtain ⟨la, hla⟩ : ∃ la, lastU (L.take pre.length) = la := ⟨_, rfl⟩
    rw [hla] at c3
    have d2 : W.cell? ⟨b, 2, none⟩ = some (.int .i64 u) := by rw [← hu]; exact hb2.cell 2
    have e1 : W.cell? ⟨w.heap.size + 1, 0, none⟩ = some (.bool false) := c1.cell 0
    have f1 := c1.frozen 0
    have e3 : W.cell? ⟨w.heap.size + 1 + 1, 0, none⟩ = some (.int .i64 la) := c3.cell 0
    have f3 := c3.frozen 0
    have HI := Lib.hid hall
    have HB := Lib.hid hB
    have HC := Lib.hid c1
    have HC3 := Lib.hid c3
    have HLA := Lib.hid hla
    have HUS : Hid (u = s.used) := Lib.hid (by rw [← hu]; exact hus)
    have HU := Lib.hid hu
    clear hm hB c1 c3 hall hb2 hus hla hu
    by_cases hq1 : u < la
    · have hbad : usedB la s = false := by unfold usedB; rw [← HUS.out]; simp; omega
      have HBAD := Lib.hid hbad
      clear hbad
      gi_wp2
      exact ⟨FarK.setCell (p := ⟨w.heap.size + 1, 0, none⟩) (by dsimp only; omega) _ _, HB.out.setCell (p := ⟨w.heap.size + 1, 0, none⟩) (by dsimp only; omega) _, HC.out.set_ 0 _, sorted_bad HS.out (by rw [← HKK.out, HLA.out]; exact HBAD.out)⟩
    · by_cases hq2 : 1000000000000 < u
      · have hbad : usedB la s = false := by unfold usedB; rw [← HUS.out]; simp; omega
        have HBAD := Lib.hid hbad
        clear hbad
        gi_wp2
        exact ⟨FarK.setCell (p := ⟨w.heap.size + 1, 0, none⟩) (by dsimp only; omega) _ _, HB.out.setCell (p := ⟨w.heap.size + 1, 0, none⟩) (by dsimp only; omega) _, HC.out.set_ 0 _, sorted_bad HS.out (by rw [← HKK.out, HLA.out]; exact HBAD.out)⟩
      · have hok : usedB la s = true := by unfold usedB; rw [← HUS.out]; simp; omega
        have HOK := Lib.hid hok
        clear hok
        gi_wp2
        refine ⟨FarK.setCell (p := ⟨w.heap.size + 1 + 1, 0, none⟩) (by dsimp only; omega) _ _, HB.out.setCell (p := ⟨w.heap.size + 1 + 1, 0, none⟩) (by dsimp only; omega) _, HC.out.far (p := ⟨w.heap.size + 1 + 1, 0, none⟩) (by dsimp only; omega) _, ?_, ?_⟩
        · rw [HL1.out, lastU_take HS.out, ← HUS.out]; exact HC3.out.set_ 0 _
        · rw [HL1.out, sorted_snoc HS.out, ← HKK.out, HLA.out, HOK.out, HI.out]; rfl
  case done =>
    rintro D W hD ⟨hB, hI⟩ hK
    have hD2 : w.heap.size + 4 ≤ D := by omega
    have hzl : V.zipIdx.length = L.length := by rw [List.length_zipIdx]; exact HM.out.len
    obtain rfl : B = true := by rw [← HBB.out]; have := hI.2.2; rwa [hzl, List.take_of_length_le (Nat.le_refl _)] at this
    have c1 := hI.1
    have e1 : W.cell? ⟨w.heap.size + 1, 0, none⟩ = some (.bool false) := c1.cell 0
    have f1 := c1.frozen 0
    have HC := Lib.hid (c1.set_ 0 (.bool true))
    have HB := Lib.hid (hB.setCell (p := ⟨w.heap.size + 1, 0, none⟩) (by dsimp only; omega) (.bool true))
    have hK1 : (W.setCell ⟨w.heap.size + 1, 0, none⟩ (.bool true)).heap[D]? = some (.deferred (some [])) := by
      rw [Below.heap_setCell _ _ _ _ (by dsimp only; omega)]; exact hK
    clear hI c1 hB hK hs0 hB0 hzl
    gi_wp2
    refine ⟨by simp, .inl ⟨_, _, rfl, run_takeDeferred hK1, ?_⟩⟩
    have q1 := cell_putD HC.out (D := D) (by omega)
    have q1 : _ = some (Value.bool true) := q1
    refine ⟨.bool true, by simp [results, Tryd.results35, go_sem, q1], rfl, Keeps.of_below (HB.out.trans (belowK_b (n₀ := w.heap.size) (w := w) (Nat.le_refl _) _ D _ _ (by omega) hK1 rfl rfl)) []⟩
  case stop =>
    rintro D pre W hD _ ⟨hB, c2, hx⟩ hK
    have hD2 : w.heap.size + 4 ≤ D := by omega
    obtain rfl : B = false := by rw [← HBB.out]; exact hx
    have HB := Lib.hid hB
    clear hB hs0 hB0
    gi_wp2
    refine ⟨by simp, .inl ⟨_, _, rfl, run_takeDeferred hK, ?_⟩⟩
    have q1 := cell_putD c2 (D := D) (by omega)
    refine ⟨.bool false, by simp [results, Tryd.results35, go_sem, q1], rfl, Keeps.of_below (HB.out.trans (belowK_b (n₀ := w.heap.size) (w := w) (Nat.le_refl _) _ D _ _ (by omega) hK rfl rfl)) []⟩

set_option maxRecDepth 100000 in
set_option maxHeartbeats 2000000 in
theorem areApart_any (a : Option Addr) (c : Nat) (next : Int) (V : List SV) (L : List Sn) (hV : V.length ≤ 1000000) (w : World) (hR : RowIn w a V) (hM : Mt w V L) (B : Bool) (hB : apartB next [] L = B) :
    Calls Tryd.prog 34 #[.agg #[.slice a V.length c, .int .i64 next]] w fun r w' => r = .returned (.bool B) ∧ Keeps [] w w' := by
  refine (callsIn_wide (n := 9)).1 ?_
  have HBB := Lib.hid hB
  have HR := Lib.hid hR
  have HM := Lib.hid hM
  obtain ⟨N, hN⟩ : ∃ N, V.length = N := ⟨_, rfl⟩
  have HN := Lib.hid hN
  rw [hN] at hV ⊢
  clear hB hR hM hN
  have hmm := fun W => run_makeMap (P := Tryd.prog) 74 W
  refine callsIn_of_wp_marks Tryd.func34 rfl trivial ?_ rfl
  simp only [Tryd.ntmps34, List.size_toArray, List.length_cons, List.length_nil, Nat.reduceAdd, Nat.reduceSub, Array.replicate_succ, Array.replicate_zero, List.push_toArray, List.append_toArray, List.nil_append, List.cons_append]
  gi_wp2_with (fail)
  refine ⟨trivial, (callsIn_wide.2 (snaps_any _ _ _ _ _)).mono ?_⟩
  rintro e w1 ⟨rfl, rfl⟩
  gi_wp2_with (fail)
  obtain ⟨W0, hW0⟩ : ∃ W0, (((((w.alloc (.cells #[.slice a N c, .int .i64 next] 59)).alloc (.cells #[.bool false] 4)).alloc (.map #[] 0)).alloc (.cells #[.map (some (w.heap.size + 1 + 1))] 74)).alloc (.cells #[.slice a N c, .int .i64 next] 59)) = W0 := ⟨_, rfl⟩
  have hs0 : W0.heap.size = w.heap.size + 5 := by rw [← hW0]; simp
  have hB0 : Below w.heap.size w W0 := by
    rw [← hW0]; exact ((((((Below.refl _ w).alloc (Nat.le_refl _) _).alloc (by simp; try omega) _).alloc (by simp; try omega) _).alloc (by simp; try omega) _).alloc (by simp; try omega) _)
  have b0 : Blk W0 (w.heap.size) 59 #[.slice a N c, .int .i64 next] := by
    rw [← hW0]; exact ((((blk_at _ _ _ _ rfl).alloc _).alloc _).alloc _).alloc _
  have b1 : Blk W0 (w.heap.size + 1) 4 #[.bool false] := by
    rw [← hW0]; exact ((((blk_at _ _ _ _ (by simp)).alloc _).alloc _).alloc _)
  have bs : SetAt W0 (w.heap.size + 1 + 1) [] := by
    rw [← hW0]
    refine ⟨#[], 0, ?_, rfl⟩
    rw [Below.heap_alloc _ _ _ (by simp), Below.heap_alloc _ _ _ (by simp)]
    have := World.alloc_heap_new ((w.alloc (.cells #[.slice a N c, .int .i64 next] 59)).alloc (.cells #[.bool false] 4)) (.map #[] 0)
    simpa only [World.size_alloc] using this
  have b3 : Blk W0 (w.heap.size + 1 + 1 + 1) 74 #[.map (some (w.heap.size + 1 + 1))] := by
    rw [← hW0]; exact ((blk_at _ _ _ _ (by simp)).alloc _)
  have bp : W0.cell? ⟨w.heap.size + 1 + 1 + 1 + 1, 0, none⟩ = some (.slice a V.length c) := by
    rw [← hW0, HN.out]; exact (blk_at _ 59 _ _ (by simp)).cell 0
  rw [hW0]
  clear hW0
  try clear hmm
  refine wpIn_rangeC rfl (by omega) (gf := 54) (lb := #[.pointer (some ⟨w.heap.size + 1 + 1 + 1 + 1, 0, none⟩)]) rfl trivial (enters_of Tryd.func54 (by kernel_rfl) rfl) (snaps_seq 8 (w.heap.size + 1 + 1 + 1 + 1) a c V (by rw [HN.out]; exact hV) W0 bp) (Below.refl _ _) (fun _ => rfl)
    (fun pre A => Below w.heap.size w A ∧ Blk A (w.heap.size + 1) 4 #[.bool false] ∧ Blk A (w.heap.size + 1 + 1 + 1) 74 #[.map (some (w.heap.size + 1 + 1))] ∧ Blk A w.heap.size 59 #[.slice a N c, .int .i64 next] ∧ SetAt A (w.heap.size + 1 + 1) (curs (L.take pre.length)) ∧ apartB next [] (L.take pre.length) = true) (fun pre A => Below w.heap.size w A ∧ Blk A (w.heap.size + 1) 4 #[.bool false] ∧ apartB next [] L = false)
    (fun s A A' h hb => ⟨h.1.trans (hb.mono (by omega)), blk_low h.2.1 (by omega) hb, blk_low h.2.2.1 (by omega) hb, blk_low h.2.2.2.1 (by omega) hb, h.2.2.2.2.1.low (by omega) hb, h.2.2.2.2.2⟩) (fun s A A' h hb => ⟨h.1.trans (hb.mono (by omega)), blk_low h.2.1 (by omega) hb, h.2.2⟩)
    (fun s A h => HR.out.keeps (Keeps.of_below h.1 [])) ⟨hB0, b1, b3, b0, bs, rfl⟩
    (fun x b => { tmps := #[.agg #[.slice a N c, .int .i64 next], .pointer (some ⟨w.heap.size, 0, none⟩), .pointer (some ⟨w.heap.size + 1, 0, none⟩), .pointer (some ⟨w.heap.size + 1 + 1 + 1, 0, none⟩), undef, .pointer (some ⟨b, 0, none⟩), .map (some (w.heap.size + 1 + 1)), .agg #[.slice a N c, .int .i64 next], .func (.func 54) #[] #[.pointer (some ⟨w.heap.size + 1 + 1 + 1 + 1, 0, none⟩)], .int .i64 (x.2 : Int), .agg #[.int .i64 x.1.cur, .slice x.1.ia x.1.il x.1.ic, .int .i64 x.1.used], undef, undef, undef, undef, undef, undef, undef, undef, undef, undef, undef, undef, undef, undef, undef, undef, undef, undef, undef, undef], defers := [] })
    (fun x => .cells #[.int .i64 x.1.cur, .slice x.1.ia x.1.il x.1.ic, .int .i64 x.1.used] 39) ?assign ?body ?done ?stop
  case assign =>
    intro l x W K hK
    unfold itemS
    gi_wp2
    exact hK
  case body =>
    rintro l pre x b W ⟨hB, hI⟩ hpre hb hbx
    obtain ⟨hk, hpr, rfl⟩ := zip_pre hpre
    obtain ⟨k, hkk⟩ : ∃ k, pre.length = k := ⟨_, rfl⟩
    have hkL : k < L.length := by rw [← HM.out.len, ← hkk]; exact hk
    have hm0 := HM.out.get pre.length hk (by rw [hkk]; exact hkL)
    obtain ⟨y, hy⟩ : ∃ y, V[pre.length] = y := ⟨_, rfl⟩
    obtain ⟨s, hs⟩ : ∃ s, L[k] = s := ⟨_, rfl⟩
    have hm : Mt1 w y s := by
      simp only [hkk] at hm0 hy
      rw [hy, hs] at hm0; exact hm0
    clear hm0
    have hb2 : Blk W b 39 #[.int .i64 y.cur, .slice y.ia y.il y.ic, .int .i64 y.used] := by
      have := hbx
      simp only [hy] at this
      exact this
    simp only [hy]
    have hlen1 : (pre ++ [(y, pre.length)]).length = k + 1 := by rw [List.length_append, hkk]; rfl
    rw [hy] at hpre
    clear hbx
    have HS : Hid (L[k]? = some s) := Lib.hid (by rw [List.getElem?_eq_getElem hkL, hs])
    have HL1 := Lib.hid hlen1
    have HKK := Lib.hid hkk
    have hs1 : w.heap.size + 5 ≤ W0.heap.size := by omega
    clear hs hlen1 hpr hk hpre hkL hy hkk hs0 hB0 bp
    have hcu := hm.1
    obtain ⟨c1, c3, c0, hset, hall⟩ := hI
    obtain ⟨u, hu⟩ : ∃ u, y.cur = u := ⟨_, rfl⟩
    obtain ⟨la, hla⟩ : ∃ la, curs (L.take pre.length) = la := ⟨_, rfl⟩
    rw [hla] at hset
    have d0 : W.cell? ⟨b, 0, none⟩ = some (.int .i64 u) := by rw [← hu]; exact hb2.cell 0
    have e1 : W.cell? ⟨w.heap.size + 1, 0, none⟩ = some (.bool false) := c1.cell 0
    have f1 := c1.frozen 0
    have e3 : W.cell? ⟨w.heap.size + 1 + 1 + 1, 0, none⟩ = some (.map (some (w.heap.size + 1 + 1))) := c3.cell 0
    have e0 : W.cell? ⟨w.heap.size, 1, none⟩ = some (.int .i64 next) := c0.cell 1
    have hlk := hset.look u
    have HI := Lib.hid hall
    have HB := Lib.hid hB
    have HC := Lib.hid c1
    have HC3 := Lib.hid c3
    have HC0 := Lib.hid c0
    have HSET := Lib.hid hset
    have HLA := Lib.hid hla
    have HUS : Hid (u = s.cur) := Lib.hid (by rw [← hu]; exact hcu)
    clear hm hB c1 c3 c0 hall hb2 hcu hla hu hset
    have fin : curB next la s = false → roundB W0.heap.size (fun pre A => Below w.heap.size w A ∧ Blk A (w.heap.size + 1) 4 #[.bool false] ∧ Blk A (w.heap.size + 1 + 1 + 1) 74 #[.map (some (w.heap.size + 1 + 1))] ∧ Blk A w.heap.size 59 #[.slice a N c, .int .i64 next] ∧ SetAt A (w.heap.size + 1 + 1) (curs (L.take pre.length)) ∧ apartB next [] (L.take pre.length) = true) (fun pre A => Below w.heap.size w A ∧ Blk A (w.heap.size + 1) 4 #[.bool false] ∧ apartB next [] L = false) (pre ++ [(y, pre.length)]) W .ret { tmps := #[], defers := [] } (W.setCell ⟨w.heap.size + 1, 0, none⟩ (.bool false)) := fun hbad =>
      ⟨FarK.setCell (p := ⟨w.heap.size + 1, 0, none⟩) (by dsimp only; omega) _ _, HB.out.setCell (p := ⟨w.heap.size + 1, 0, none⟩) (by dsimp only; omega) _, HC.out.set_ 0 _, apart_bad next HS.out (by rw [← HKK.out, HLA.out]; exact hbad)⟩
    have HFIN := Lib.hid fin
    clear fin
    cases hq0 : la.contains u with
    | true =>
      rw [hq0] at hlk
      have HBAD : Hid (curB next la s = false) := Lib.hid (by unfold curB; rw [← HUS.out, hq0]; rfl)
      clear hq0
      gi_wp2
      exact HFIN.out HBAD.out
    | false =>
      rw [hq0] at hlk
      by_cases hq1 : u < 1
      · have HBAD : Hid (curB next la s = false) := Lib.hid (by unfold curB; rw [← HUS.out]; simp; omega)
        clear hq0
        gi_wp2
        exact HFIN.out HBAD.out
      · by_cases hq2 : next ≤ u
        · have HBAD : Hid (curB next la s = false) := Lib.hid (by unfold curB; rw [← HUS.out]; simp; omega)
          clear hq0
          gi_wp2
          exact HFIN.out HBAD.out
        · have HOK : Hid (curB next la s = true) := Lib.hid (by unfold curB; rw [← HUS.out, hq0]; simp; omega)
          obtain ⟨o, hup, hset2⟩ := HSET.out.update u hq0
          have HS2 := Lib.hid hset2
          have hPlt : w.heap.size + 1 + 1 < W.heap.size := by obtain ⟨es, cc, hx, _⟩ := HSET.out; exact (Array.getElem?_eq_some_iff.1 hx).1
          have HPL := Lib.hid hPlt
          clear hq0 hset2 hPlt
          gi_wp2
          refine ⟨FarK.putObj (by omega) _ _, HB.out.trans ((Below.refl _ W).grown (grownBy_putObj' W _ _) HB.out.size (fun j e => by cases e; omega)), ?_, ?_, ?_, ?_, ?_⟩
          · exact (World.putObj_heap_other (by omega)).trans HC.out
          · exact (World.putObj_heap_other (by omega)).trans HC3.out
          · exact (World.putObj_heap_other (by omega)).trans HC0.out
          · rw [HL1.out, cur_take HS.out, ← HKK.out, HLA.out, ← HUS.out]; exact HS2.out
          · rw [HL1.out, apart_snoc next HS.out, ← HKK.out, HLA.out, HOK.out, HI.out]; rfl
  case done =>
    rintro D W hD ⟨hB, hI⟩ hK
    have hD2 : w.heap.size + 5 ≤ D := by omega
    have hzl : V.zipIdx.length = L.length := by rw [List.length_zipIdx]; exact HM.out.len
    obtain rfl : B = true := by rw [← HBB.out]; have := hI.2.2.2.2; rwa [hzl, List.take_of_length_le (Nat.le_refl _)] at this
    have c1 := hI.1
    have e1 : W.cell? ⟨w.heap.size + 1, 0, none⟩ = some (.bool false) := c1.cell 0
    have f1 := c1.frozen 0
    have HC := Lib.hid (c1.set_ 0 (.bool true))
    have HB := Lib.hid (hB.setCell (p := ⟨w.heap.size + 1, 0, none⟩) (by dsimp only; omega) (.bool true))
    have hK1 : (W.setCell ⟨w.heap.size + 1, 0, none⟩ (.bool true)).heap[D]? = some (.deferred (some [])) := by
      rw [Below.heap_setCell _ _ _ _ (by dsimp only; omega)]; exact hK
    clear hI c1 hB hK hs0 hB0 hzl
    gi_wp2
    refine ⟨by simp, .inl ⟨_, _, rfl, run_takeDeferred hK1, ?_⟩⟩
    have q1 := cell_putD HC.out (D := D) (by omega)
    have q1 : _ = some (Value.bool true) := q1
    refine ⟨.bool true, by simp [results, Tryd.results34, go_sem, q1], rfl, Keeps.of_below (HB.out.trans (belowK_b (n₀ := w.heap.size) (w := w) (Nat.le_refl _) _ D _ _ (by omega) hK1 rfl rfl)) []⟩
  case stop =>
    rintro D pre W hD _ ⟨hB, c2, hx⟩ hK
    have hD2 : w.heap.size + 5 ≤ D := by omega
    obtain rfl : B = false := by rw [← HBB.out]; exact hx
    have HB := Lib.hid hB
    clear hB hs0 hB0
    gi_wp2
    refine ⟨by simp, .inl ⟨_, _, rfl, run_takeDeferred hK, ?_⟩⟩
    have q1 := cell_putD c2 (D := D) (by omega)
    refine ⟨.bool false, by simp [results, Tryd.results34, go_sem, q1], rfl, Keeps.of_below (HB.out.trans (belowK_b (n₀ := w.heap.size) (w := w) (Nat.le_refl _) _ D _ _ (by omega) hK rfl rfl)) []⟩

end Go.Proofs.YtbcppmcjbcnlbaaDoor
