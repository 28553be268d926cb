/- The walk of Pin. -/
import Derived.Test.YtbcppmcjbcnlbaaDoorSnapK
namespace Go.Proofs.YtbcppmcjbcnlbaaDoor
open Go.RowKit Go.Shelf
attribute [local go_sem ↓] Go.wp_at_zero Go.wp_at_succ

theorem SRow.tail {W : World} {B : Nat} {v : Value} {V : List SV} (h : SRow W B v V) (h1 : 1 < V.length) :
    ∃ g off cap, v = .slice (some ⟨g, off, none⟩) V.length cap ∧ 1 < cap ∧ SRow W B (.slice (some ⟨g, off + 1 * 3, none⟩) (V.length - 1) (cap - 1)) (V.drop 1) := by
  rcases h with ⟨_, rfl⟩ | ⟨g, off, cap, rfl, h2, h3, h4, h5, h6⟩
  · simp at h1
  · refine ⟨g, off, cap, rfl, by omega, .inr ⟨g, off + 1 * 3, cap - 1, by rw [List.length_drop], h2, ⟨h3.blk, fun j hj => ?_⟩, by rw [List.length_drop]; omega, by omega, ?_⟩⟩
    · have := h3.cells (1 * 3 + j) (by omega)
      rwa [← Nat.add_assoc] at this
    · have := h6
      rw [← List.take_append_drop 1 V, List.flatMap_append] at this
      have h7 := this.right
      rwa [flat_len, List.length_take, Nat.min_eq_left (by omega)] at h7
theorem Mt.filter {w : World} (now : Int) : ∀ {V : List SV} {L : List Sn}, Mt w V L → Mt w (V.filter (freshV now)) (L.filter (freshB now))
  | [], [], _ => trivial
  | v :: V, s :: L, h => by
    have e : freshV now v = freshB now s := by unfold freshV freshB; rw [h.1.2.1]
    rw [List.filter_cons, List.filter_cons, e]
    split
    · exact ⟨h.1, Mt.filter now h.2⟩
    · exact Mt.filter now h.2
  | [], _ :: _, h => h.elim
  | _ :: _, [], h => h.elim
theorem Mt.used {w : World} {Q : Int → Prop} : ∀ {V : List SV} {L : List Sn}, Mt w V L → (∀ s ∈ L, Q s.used) → ∀ x ∈ V, Q x.used
  | v :: V, s :: L, h, hq, x, hx => by
    rcases List.mem_cons.1 hx with rfl | hx
    · rw [h.1.2.1]; exact hq s (by simp)
    · exact Mt.used h.2 (fun s hs => hq s (by simp [hs])) x hx
  | [], _, _, _, _, hx => by cases hx
  | _ :: _, [], h, _, _, _ => h.elim
theorem sorted_ticks : ∀ (L : List Sn) (last : Int), sortedB last L = true → 0 ≤ last → ∀ s ∈ L, 0 ≤ s.used ∧ s.used ≤ 1000000000000
  | s :: L, last, h, h0, x, hx => by
    simp only [sortedB, usedB, Bool.and_eq_true, decide_eq_true_eq] at h
    rcases List.mem_cons.1 hx with rfl | hx
    · omega
    · exact sorted_ticks L s.used h.2 (by omega) x hx
  | [], _, _, _, _, hx => by cases hx
theorem right_ticks {p : Po} (h : rightP p = true) : (∀ s ∈ p.l, 0 ≤ s.used ∧ s.used ≤ 1000000000000) ∧ 0 ≤ lastU p.l := by
  have hs : sortedB 0 p.l = true := by
    simp only [rightP, Bool.and_eq_true] at h
    exact h.1.2
  have ht := sorted_ticks p.l 0 hs (Int.le_refl _)
  refine ⟨ht, ?_⟩
  unfold lastU
  cases hl : p.l.getLast? with
  | none => simp
  | some s =>
    have := ht s (List.mem_of_getLast? hl)
    simp; omega
theorem check_ticks {p : Po} {now : Int} (h : checkB p now = true) : (∀ s ∈ p.l, TickOk s.used) ∧ TickOk now ∧ 0 ≤ now := by
  have h2 := checkB_small h
  have hr : rightP p = true := by
    simp only [checkB, Bool.and_eq_true] at h
    exact h.1.1
  obtain ⟨h3, h4⟩ := right_ticks hr
  refine ⟨fun s hs => ?_, ?_, by omega⟩
  · have := h3 s hs
    exact ⟨by omega, by omega⟩
  · exact ⟨by omega, by omega⟩
theorem pinA_bad {p : Po} {xs : List ByteArray} {now : Int} (h : (checkB p now && itemsB xs && decide (p.next < 1000000000000)) = false) : pinA p xs now = (po0, 0, 160) := by
  unfold pinA; rw [h]; rfl
theorem pinA_ok {p : Po} {xs : List ByteArray} {now : Int} (h : (checkB p now && itemsB xs && decide (p.next < 1000000000000)) = true) : pinA p xs now = (⟨pinL p.l now ++ [⟨p.next, xs, now⟩], p.next + 1⟩, p.next, 0) := by
  unfold pinA; rw [h]; rfl
theorem poolV_nil (w : World) : PoolV w none 0 [] po0 := ⟨Nat.le_refl _, by simp, fun h => absurd rfl h, trivial⟩

/-- What Pin answers. -/
def PinR (w : World) (q : Po) (cur err : Int) (r : Ending) (w' : World) : Prop :=
  ∃ a n c V, r = .returned (.tuple #[.agg #[.slice a n c, .int .i64 q.next], .int .i64 cur, .int .i64 err]) ∧ V.length = n ∧ PoolV w' a c V q ∧ Keeps [] w w'
/-- The same, and all texts lie in new blocks. -/
def PinRF (w : World) (q : Po) (cur err : Int) (r : Ending) (w' : World) : Prop :=
  ∃ a n c V, r = .returned (.tuple #[.agg #[.slice a n c, .int .i64 q.next], .int .i64 cur, .int .i64 err]) ∧ V.length = n ∧ PoolV w' a c V q ∧ Keeps [] w w' ∧ ∀ x ∈ V, FrV w.heap.size x
theorem PinRF.plain {w : World} {q : Po} {cur err : Int} {r : Ending} {w' : World} (h : PinRF w q cur err r w') : PinR w q cur err r w' := by
  obtain ⟨a, n, c, V, h1, h2, h3, h4, _⟩ := h
  exact ⟨a, n, c, V, h1, h2, h3, h4⟩
theorem PinR.fresh0 {w : World} {cur err : Int} {r : Ending} {w' : World} (h : PinR w po0 cur err r w') : PinRF w po0 cur err r w' := by
  obtain ⟨a, n, c, V, h1, h2, h3, h4⟩ := h
  obtain rfl : V = [] := List.eq_nil_of_length_eq_zero h3.mt.len
  exact ⟨a, n, c, _, h1, h2, h3, h4, fun x hx => by cases hx⟩

set_option maxRecDepth 100000 in
set_option maxHeartbeats 4000000 in
theorem pin_bad (a : Option Addr) (c : Nat) (V : List SV) (p : Po) (n : Nat) (hn : V.length = n) (ia : Option Addr) (ic m : Nat) (xs : List ByteArray) (hm : xs.length = m) (now : Int) (w : World) (hP : PoolV w a c V p) (hI : StrsV w ia ic xs) (e : Nat → Addr) (he : Env w e)
    (hbad : (checkB p now && itemsB xs && decide (p.next < 1000000000000)) = false) :
    Calls Tryd.prog 12 #[.agg #[.slice a n c, .int .i64 p.next], .slice ia m ic, .int .i64 now] w (PinR w po0 0 160) := by
  obtain ⟨x, hx⟩ : ∃ x, p.next = x := ⟨_, rfl⟩
  obtain ⟨y, hy⟩ : ∃ y, checkB p now = y := ⟨_, rfl⟩
  obtain ⟨z, hz⟩ : ∃ z, itemsB xs = z := ⟨_, rfl⟩
  rw [hy, hz, hx] at hbad
  have hcc := fun W (hk : Keeps [] w W) => check_any a c V p n hn now W (hP.keeps hk) e (he.keep hk) y hy
  have hci := fun W (hk : Keeps [] w W) => areItems_any ia ic xs z hz W (hI.at_.keeps hk) hI.small hI.size
  rw [hm] at hci
  rw [hx] at hcc ⊢
  have hsm := hI.small
  have HCC := Lib.hid hcc
  have HCI := Lib.hid hci
  have HE := Lib.hid he
  have hk0 := (((Keeps.refl [] w).alloc (.cells #[.slice a n c, .int .i64 x] 24)).alloc (.cells #[.int .i64 now] 3)).alloc (.cells #[.slice none 0 0, .int .i64 0] 24)
  have HK := Lib.hid hk0
  have hb0 : Blk (((w.alloc (.cells #[.slice a n c, .int .i64 x] 24)).alloc (.cells #[.int .i64 now] 3)).alloc (.cells #[.slice none 0 0, .int .i64 0] 24)) w.heap.size 24 #[.slice a n c, .int .i64 x] := ((Blk.new w _ _).alloc _).alloc _
  have hb1 : Blk (((w.alloc (.cells #[.slice a n c, .int .i64 x] 24)).alloc (.cells #[.int .i64 now] 3)).alloc (.cells #[.slice none 0 0, .int .i64 0] 24)) (w.heap.size + 1) 3 #[.int .i64 now] := (blk_at _ _ _ _ (by simp)).alloc _
  have hb2 : Blk (((w.alloc (.cells #[.slice a n c, .int .i64 x] 24)).alloc (.cells #[.int .i64 now] 3)).alloc (.cells #[.slice none 0 0, .int .i64 0] 24)) (w.heap.size + 1 + 1) 24 #[.slice none 0 0, .int .i64 0] := blk_at _ _ _ _ (by simp)
  have HB0 := Lib.hid hb0
  have HB2 := Lib.hid hb2
  clear hcc hci he hk0 hP hI hx hy hz hn hm hb0 hb1 hb2
  go_enter Tryd.func12, Tryd.ntmps12
  go_wp2_with (fail)
  refine (HCC.out _ HK.out).mono ?_
  rintro r w1 ⟨rfl, hk⟩
  have HB0 := Lib.hid (HB0.out.keeps hk (by simp))
  have HB2 := Lib.hid (HB2.out.keeps hk (by simp))
  have HK := Lib.hid (HK.out.trans hk)
  clear hk
  cases y with
  | false =>
    have e0 := (HE.out.keep HK.out).cell 0 (by simp)
    unfold errV
    go_wp2_with (fail)
    refine (told_any (some 0) e (by simp) _ (HE.out.keep HK.out) 160 rfl).mono ?_
    rintro r w2 ⟨rfl, rfl⟩
    have c0 := HB2.out.cell 0
    have c1 := HB2.out.cell 1
    have f0 := HB2.out.frozen 0
    have f1 := HB2.out.frozen 1
    have HBF := Lib.hid ((HB2.out.set_ 0 (.slice none 0 0)).set_ 1 (.int .i64 0))
    have HKF := Lib.hid ((HK.out.setCell (p := ⟨w.heap.size + 1 + 1, 0, none⟩) (.inr (by dsimp only; omega)) (.slice none 0 0)).setCell (p := ⟨w.heap.size + 1 + 1, 1, none⟩) (.inr (by dsimp only; omega)) (.int .i64 0))
    go_wp2
    have q0 : _ = some (Value.slice none 0 0) := HBF.out.cell 0
    have q1 : _ = some (Value.int .i64 0) := HBF.out.cell 1
    refine bodyPost_ret (v := .tuple #[.agg #[.slice none 0 0, .int .i64 0], .int .i64 0, .int .i64 160]) (by simp [results, Tryd.results12, go_sem, q0, q1]) rfl ?_
    exact ⟨none, 0, 0, [], rfl, rfl, poolV_nil _, HKF.out⟩
  | true =>
    unfold errV
    go_wp2_with (fail)
    refine (HCI.out _ HK.out).mono ?_
    rintro r w2 ⟨rfl, hk⟩
    have HB0 := Lib.hid (HB0.out.keeps hk (by simp))
    have HB2 := Lib.hid (HB2.out.keeps hk (by simp))
    have HK := Lib.hid (HK.out.trans hk)
    clear hk
    cases z with
    | false =>
      have e0 := (HE.out.keep HK.out).cell 0 (by simp)
      go_wp2_with (fail)
      refine (told_any (some 0) e (by simp) _ (HE.out.keep HK.out) 160 rfl).mono ?_
      rintro r w2 ⟨rfl, rfl⟩
      have c0 := HB2.out.cell 0
      have c1 := HB2.out.cell 1
      have f0 := HB2.out.frozen 0
      have f1 := HB2.out.frozen 1
      have HBF := Lib.hid ((HB2.out.set_ 0 (.slice none 0 0)).set_ 1 (.int .i64 0))
      have HKF := Lib.hid ((HK.out.setCell (p := ⟨w.heap.size + 1 + 1, 0, none⟩) (.inr (by dsimp only; omega)) (.slice none 0 0)).setCell (p := ⟨w.heap.size + 1 + 1, 1, none⟩) (.inr (by dsimp only; omega)) (.int .i64 0))
      go_wp2
      have q0 : _ = some (Value.slice none 0 0) := HBF.out.cell 0
      have q1 : _ = some (Value.int .i64 0) := HBF.out.cell 1
      refine bodyPost_ret (v := .tuple #[.agg #[.slice none 0 0, .int .i64 0], .int .i64 0, .int .i64 160]) (by simp [results, Tryd.results12, go_sem, q0, q1]) rfl ?_
      exact ⟨none, 0, 0, [], rfl, rfl, poolV_nil _, HKF.out⟩
    | true =>
      have hx : (1000000000000 : Int) ≤ x := by simpa using hbad
      have p1 : _ = some (Value.int .i64 x) := HB0.out.cell 1
      clear hbad
      have e0 := (HE.out.keep HK.out).cell 0 (by simp)
      go_wp2_with (fail)
      refine (told_any (some 0) e (by simp) _ (HE.out.keep HK.out) 160 rfl).mono ?_
      rintro r w2 ⟨rfl, rfl⟩
      have c0 := HB2.out.cell 0
      have c1 := HB2.out.cell 1
      have f0 := HB2.out.frozen 0
      have f1 := HB2.out.frozen 1
      have HBF := Lib.hid ((HB2.out.set_ 0 (.slice none 0 0)).set_ 1 (.int .i64 0))
      have HKF := Lib.hid ((HK.out.setCell (p := ⟨w.heap.size + 1 + 1, 0, none⟩) (.inr (by dsimp only; omega)) (.slice none 0 0)).setCell (p := ⟨w.heap.size + 1 + 1, 1, none⟩) (.inr (by dsimp only; omega)) (.int .i64 0))
      go_wp2
      have q0 : _ = some (Value.slice none 0 0) := HBF.out.cell 0
      have q1 : _ = some (Value.int .i64 0) := HBF.out.cell 1
      refine bodyPost_ret (v := .tuple #[.agg #[.slice none 0 0, .int .i64 0], .int .i64 0, .int .i64 160]) (by simp [results, Tryd.results12, go_sem, q0, q1]) rfl ?_
      exact ⟨none, 0, 0, [], rfl, rfl, poolV_nil _, HKF.out⟩
end Go.Proofs.YtbcppmcjbcnlbaaDoor
