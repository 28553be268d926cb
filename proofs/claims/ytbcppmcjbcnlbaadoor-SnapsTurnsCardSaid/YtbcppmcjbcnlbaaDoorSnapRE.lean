/- The walks of Same: the program's and the document's. -/
import Derived.Test.YtbcppmcjbcnlbaaDoorSnapRD
namespace Go.Proofs.YtbcppmcjbcnlbaaDoor
open Go.RowKit Go.Shelf
attribute [local go_sem ↓] Go.wp_at_zero Go.wp_at_succ

set_option maxRecDepth 100000 in
set_option maxHeartbeats 1000000 in
theorem equal_any (a1 a2 : Option Addr) (c1 c2 : Nat) (xs ys : List ByteArray) (n m : Nat) (hn : xs.length = n) (hm : ys.length = m) (R : Bool) (hR : R = true ↔ xs = ys) (w : World) (h1 : StrsV w a1 c1 xs) (h2 : StrsV w a2 c2 ys) :
    Calls Tryd.prog 49 #[.slice a1 n c1, .slice a2 m c2] w fun r w' => r = .returned (.bool R) ∧ Keeps [] w w' := by
  by_cases hlen : n = m
  · subst hlen
    have hNN : n ≤ 1000000 := by rw [← hn]; exact h1.small
    have H1 := Lib.hid h1
    have H2 := Lib.hid h2
    have HN := Lib.hid hn
    have HN2 := Lib.hid hm
    have HR := Lib.hid hR
    clear h1 h2 hn hm hR
    go_enter Tryd.func49, Tryd.ntmps49
    go_wp2
    go_loopw [13] (fun i wr => ∃ k : Nat, k ≤ n ∧ i = .int .i64 k ∧ Hid (xs.take k = ys.take k) ∧ Hid (Keeps [] w wr)) (fun i _ => n - (intOf i).toNat)
    case atStart => exact ⟨0, Nat.zero_le _, rfl, Lib.hid rfl, Lib.hid (Keeps.refl [] w)⟩
    case round =>
      obtain ⟨k, hk, rfl, HE, HK⟩ := hrel
      by_cases hlt : k < n
      · have hk1 : k < xs.length := by rw [HN.out]; exact hlt
        have hk2 : k < ys.length := by rw [HN2.out]; exact hlt
        obtain ⟨g1, o1, cs1, fz1, rfl, hb1, hat1⟩ := H1.out.at_ (by rintro rfl; simp at hk1)
        obtain ⟨g2, o2, cs2, fz2, rfl, hb2, hat2⟩ := H2.out.at_ (by rintro rfl; simp at hk2)
        obtain ⟨x, hx⟩ : ∃ x, xs[k] = x := ⟨_, rfl⟩
        obtain ⟨y, hy⟩ : ∃ y, ys[k] = y := ⟨_, rfl⟩
        have q1 := hat1 k hk1
        have q2 := hat2 k hk2
        rw [hx, ← HK.out.cell (Array.getElem?_eq_some_iff.1 hb1).1 (by simp)] at q1
        rw [hy, ← HK.out.cell (Array.getElem?_eq_some_iff.1 hb2).1 (by simp)] at q2
        have i1 : (0 : Int) ≤ (k : Int) := by omega
        have i2 : (k : Int) < (n : Int) := by omega
        have HX : Hid (xs[k]? = some x) := Lib.hid (by rw [List.getElem?_eq_getElem hk1, hx])
        have HY : Hid (ys[k]? = some y) := Lib.hid (by rw [List.getElem?_eq_getElem hk2, hy])
        clear hx hy hat1 hat2 hb1 hb2 hk1 hk2
        cases hb : (x.toList == y.toList) with
        | true =>
          have hxy : x = y := (bytes_eq x y).1 hb
          have HE2 : Hid (xs.take (k + 1) = ys.take (k + 1)) := Lib.hid (by rw [take_snoc HX.out, take_snoc HY.out, HE.out, hxy])
          clear hxy
          go_wp2
          go_quiet (fail)
          go_wp2
          go_roundw
          case rel => exact ⟨k + 1, by omega, by go_num, HE2, Lib.hid (HK.out.drewN _)⟩
          case measure => simp [intOf]; omega
        | false =>
          obtain rfl : R = false := by
            cases hr : R with
            | false => rfl
            | true =>
              have e := HR.out.1 hr
              subst e
              have h1 := HX.out
              rw [HY.out] at h1
              injection h1 with h1
              rw [(bytes_eq x y).2 h1.symm] at hb
              cases hb
          go_wp2
          go_quiet (fail)
          go_wp2
          go_ret
          exact ⟨rfl, HK.out.drewN _⟩
      · obtain rfl : k = n := by omega
        obtain rfl : R = true := HR.out.2 (by
          have := HE.out
          rw [List.take_of_length_le (by rw [HN.out]; exact Nat.le_refl _), List.take_of_length_le (by rw [HN2.out]; exact Nat.le_refl _)] at this
          exact this)
        go_wp2
        go_ret
        exact ⟨rfl, HK.out⟩
  · have hne : ((n : Int) == (m : Int)) = false := by simp; omega
    obtain rfl : R = false := by
      cases hr : R with
      | false => rfl
      | true => exact absurd (by rw [← hn, ← hm, hR.1 hr]) hlen
    have s1 := h1.small
    clear hlen h1 h2 hR hn hm
    go_enter Tryd.func49, Tryd.ntmps49
    go_wp2
    go_ret
    exact ⟨rfl, Keeps.refl [] w⟩

theorem New16 (w : World) : Calls Tryd.prog 22 #[] w fun r w' => r = .returned (.agg #[.slice none 0 0, .int .i64 1]) ∧ Keeps [] w w' := by
  have HB := Lib.hid (Blk.new w 24 #[.slice none 0 0, .int .i64 1])
  go_enter Tryd.func22, Tryd.ntmps22
  go_wp2
  exact bodyPost_ret (v := .agg #[.slice none 0 0, .int .i64 1]) (by have q0 := HB.out.cell 0; have q1 := HB.out.cell 1; simp [results, Tryd.results22, go_sem, q0, q1]) rfl ⟨rfl, (Keeps.refl [] w).alloc _⟩

/-- A listing's cells and what they hold. -/
theorem Mt1.eq_iff {w : World} {x y : SV} {s t : Sn} (h1 : Mt1 w x s) (h2 : Mt1 w y t) : s = t ↔ x.cur = y.cur ∧ x.used = y.used ∧ s.items = t.items := by
  rw [h1.1, h2.1, h1.2.1, h2.2.1]
  cases s; cases t
  simp only [Sn.mk.injEq]
  exact ⟨fun ⟨a, b, c⟩ => ⟨a, c, b⟩, fun ⟨a, b, c⟩ => ⟨a, c, b⟩⟩
set_option maxRecDepth 100000 in
theorem isSame_any (x y : SV) (s t : Sn) (R : Bool) (hR : R = true ↔ s = t) (w : World) (h1 : Mt1 w x s) (h2 : Mt1 w y t) :
    Calls Tryd.prog 40 #[.agg #[.int .i64 x.cur, .slice x.ia x.il x.ic, .int .i64 x.used], .agg #[.int .i64 y.cur, .slice y.ia y.il y.ic, .int .i64 y.used]] w fun r w' => r = .returned (.bool R) ∧ Keeps [] w w' := by
  rw [h1.eq_iff h2] at hR
  have HB0 := Lib.hid ((Blk.new w 39 #[.int .i64 x.cur, .slice x.ia x.il x.ic, .int .i64 x.used]).alloc (.cells #[.int .i64 y.cur, .slice y.ia y.il y.ic, .int .i64 y.used] 39))
  have HB1 := Lib.hid (blk_at (w.alloc (.cells #[.int .i64 x.cur, .slice x.ia x.il x.ic, .int .i64 x.used] 39)) 39 #[.int .i64 y.cur, .slice y.ia y.il y.ic, .int .i64 y.used] (w.heap.size + 1) (by simp))
  have HK := Lib.hid (((Keeps.refl [] w).alloc (.cells #[.int .i64 x.cur, .slice x.ia x.il x.ic, .int .i64 x.used] 39)).alloc (.cells #[.int .i64 y.cur, .slice y.ia y.il y.ic, .int .i64 y.used] 39))
  have HS1 := Lib.hid (h1.2.2.2.keeps HK.out)
  have HS2 := Lib.hid (h2.2.2.2.keeps HK.out)
  have HL1 := Lib.hid h1.2.2.1.symm
  have HL2 := Lib.hid h2.2.2.1.symm
  have HR := Lib.hid hR
  have b0 := HB0.out.cell 0
  have b1 := HB0.out.cell 1
  have b2 := HB0.out.cell 2
  have d0 := HB1.out.cell 0
  have d1 := HB1.out.cell 1
  have d2 := HB1.out.cell 2
  clear h1 h2 hR
  go_enter Tryd.func40, Tryd.ntmps40
  cases hc : (x.cur == y.cur) with
  | false =>
    obtain rfl : R = false := by
      cases hr : R with
      | false => rfl
      | true => have := (HR.out.1 hr).1; simp [this] at hc
    go_wp2
    go_ret
    exact ⟨rfl, HK.out⟩
  | true =>
    cases hu : (x.used == y.used) with
    | false =>
      obtain rfl : R = false := by
        cases hr : R with
        | false => rfl
        | true => have := (HR.out.1 hr).2.1; simp [this] at hu
      go_wp2
      go_ret
      exact ⟨rfl, HK.out⟩
    | true =>
      have HR2 : Hid (R = true ↔ s.items = t.items) := Lib.hid (by rw [HR.out]; exact ⟨fun h => h.2.2, fun h => ⟨by simpa using hc, by simpa using hu, h⟩⟩)
      go_wp2_with (fail)
      refine (equal_any x.ia y.ia x.ic y.ic s.items t.items x.il y.il HL1.out HL2.out R HR2.out _ HS1.out HS2.out).mono ?_
      rintro r w1 ⟨rfl, hk⟩
      have HK1 := Lib.hid (HK.out.trans hk)
      clear hk
      go_wp2
      go_ret
      exact ⟨rfl, HK1.out⟩

set_option maxRecDepth 100000 in
set_option maxHeartbeats 2000000 in
theorem equalFunc_any (a1 a2 : Option Addr) (c1 c2 : Nat) (V1 V2 : List SV) (L1 L2 : List Sn) (n m : Nat) (hn : V1.length = n) (hm : V2.length = m) (R : Bool) (hR : R = true ↔ L1 = L2) (w : World) (hr1 : RowIn w a1 V1) (hm1 : Mt w V1 L1) (hr2 : RowIn w a2 V2) (hm2 : Mt w V2 L2) (hs1 : n ≤ 1000000) (f : Value) (hf : f = (.func (.func 40) #[] #[])) :
    Calls Tryd.prog 39 #[.slice a1 n c1, .slice a2 m c2, f] w fun r w' => r = .returned (.bool R) ∧ Keeps [] w w' := by
  subst hf
  have hl1 : L1.length = n := by rw [← hn]; exact hm1.len.symm
  have hl2 : L2.length = m := by rw [← hm]; exact hm2.len.symm
  by_cases hlen : n = m
  · subst hlen
    have HR1 := Lib.hid hr1
    have HR2 := Lib.hid hr2
    have HM1 := Lib.hid hm1
    have HM2 := Lib.hid hm2
    have HN1 := Lib.hid hn
    have HN2 := Lib.hid hm
    have HL1 := Lib.hid hl1
    have HL2 := Lib.hid hl2
    have HR := Lib.hid hR
    clear hr1 hr2 hm1 hm2 hn hm hl1 hl2 hR
    go_enter Tryd.func39, Tryd.ntmps39
    go_wp2
    go_loopw [17] (fun i wr => ∃ k : Nat, k ≤ n ∧ i = .int .i64 k ∧ Hid (L1.take k = L2.take k) ∧ Hid (Keeps [] w wr)) (fun i _ => n - (intOf i).toNat)
    case atStart => exact ⟨0, Nat.zero_le _, rfl, Lib.hid rfl, Lib.hid (Keeps.refl [] w)⟩
    case round =>
      obtain ⟨k, hk, rfl, HE, HK⟩ := hrel
      by_cases hlt : k < n
      · have hk1 : k < V1.length := by rw [HN1.out]; exact hlt
        have hk2 : k < V2.length := by rw [HN2.out]; exact hlt
        have hj1 : k < L1.length := by rw [HL1.out]; exact hlt
        have hj2 : k < L2.length := by rw [HL2.out]; exact hlt
        obtain ⟨g1, o1, cs1, fz1, rfl, hb1, hat1⟩ := HR1.out (by rintro rfl; simp at hk1)
        obtain ⟨g2, o2, cs2, fz2, rfl, hb2, hat2⟩ := HR2.out (by rintro rfl; simp at hk2)
        obtain ⟨x, hx⟩ : ∃ x, V1[k] = x := ⟨_, rfl⟩
        obtain ⟨y, hy⟩ : ∃ y, V2[k] = y := ⟨_, rfl⟩
        obtain ⟨s, hs⟩ : ∃ s, L1[k] = s := ⟨_, rfl⟩
        obtain ⟨t, ht⟩ : ∃ t, L2[k] = t := ⟨_, rfl⟩
        have q1 := hat1 k hk1
        have q2 := hat2 k hk2
        have e1 := HM1.out.get k hk1 hj1
        have e2 := HM2.out.get k hk2 hj2
        rw [hx, hs] at e1
        rw [hy, ht] at e2
        rw [hx] at q1
        rw [hy] at q2
        obtain ⟨x0, x1, x2⟩ := q1
        obtain ⟨y0, y1, y2⟩ := q2
        rw [← HK.out.cell (Array.getElem?_eq_some_iff.1 hb1).1 (by simp)] at x0 x1 x2
        rw [← HK.out.cell (Array.getElem?_eq_some_iff.1 hb2).1 (by simp)] at y0 y1 y2
        have i1 : (0 : Int) ≤ (k : Int) := by omega
        have i2 : (k : Int) < (n : Int) := by omega
        have HX : Hid (L1[k]? = some s) := Lib.hid (by rw [List.getElem?_eq_getElem hj1, hs])
        have HY : Hid (L2[k]? = some t) := Lib.hid (by rw [List.getElem?_eq_getElem hj2, ht])
        have hbx := (Blk.new wr 39 #[.int .i64 x.cur, .slice x.ia x.il x.ic, .int .i64 x.used])
        have yk := ((Keeps.refl [] wr).alloc (.cells #[.int .i64 x.cur, .slice x.ia x.il x.ic, .int .i64 x.used] 39))
        have hg2 : g2 < wr.heap.size := Nat.lt_of_lt_of_le (Array.getElem?_eq_some_iff.1 hb2).1 HK.out.size
        have z0 := (yk.cell (p := ⟨g2, o2 + k * 3, none⟩) hg2 (by simp)).trans y0
        have z1 := (yk.cell (p := ⟨g2, o2 + k * 3 + 1, none⟩) hg2 (by simp)).trans y1
        have z2 := (yk.cell (p := ⟨g2, o2 + k * 3 + 2, none⟩) hg2 (by simp)).trans y2
        have HBX := Lib.hid (hbx.alloc (.cells #[.int .i64 y.cur, .slice y.ia y.il y.ic, .int .i64 y.used] 39))
        have HBY := Lib.hid (blk_at (wr.alloc (.cells #[.int .i64 x.cur, .slice x.ia x.il x.ic, .int .i64 x.used] 39)) 39 #[.int .i64 y.cur, .slice y.ia y.il y.ic, .int .i64 y.used] (wr.heap.size + 1) (by simp))
        have HK2 := Lib.hid (HK.out.trans (yk.alloc (.cells #[.int .i64 y.cur, .slice y.ia y.il y.ic, .int .i64 y.used] 39)))
        have d0 := HBX.out.cell 0
        have d1 := HBX.out.cell 1
        have d2 := HBX.out.cell 2
        have f0 := HBY.out.cell 0
        have f1 := HBY.out.cell 1
        have f2 := HBY.out.cell 2
        have E1 := Lib.hid (e1.keeps HK2.out)
        have E2 := Lib.hid (e2.keeps HK2.out)
        clear hx hy hs ht hat1 hat2 hb1 hb2 hk1 hk2 hj1 hj2 e1 e2 hbx yk hg2
        obtain ⟨b, hb⟩ : ∃ b : Bool, (b = true ↔ s = t) := ⟨@decide (s = t) (Classical.propDecidable _), by simp⟩
        have HB := Lib.hid hb
        clear hb
        go_wp2_with (fail)
        refine (isSame_any x y s t b HB.out _ E1.out E2.out).mono ?_
        rintro r w1 ⟨rfl, hk1⟩
        have HK3 := Lib.hid (HK2.out.trans hk1)
        clear hk1 x0 x1 x2 y0 y1 y2 z0 z1 z2 d0 d1 d2 f0 f1 f2
        cases b with
        | true =>
          have HE2 : Hid (L1.take (k + 1) = L2.take (k + 1)) := Lib.hid (by rw [take_snoc HX.out, take_snoc HY.out, HE.out, HB.out.1 rfl])
          go_wp2
          go_roundw
          case rel => exact ⟨k + 1, by omega, by go_num, HE2, HK3⟩
          case measure => simp [intOf]; omega
        | false =>
          obtain rfl : R = false := by
            cases hr : R with
            | false => rfl
            | true =>
              have e := HR.out.1 hr
              subst e
              have h1 := HX.out
              rw [HY.out] at h1
              injection h1 with h1
              exact (Bool.false_ne_true (HB.out.2 h1.symm)).elim
          go_wp2
          go_ret
          exact ⟨rfl, HK3.out⟩
      · obtain rfl : k = n := by omega
        obtain rfl : R = true := HR.out.2 (by
          have := HE.out
          rw [List.take_of_length_le (by rw [HL1.out]; exact Nat.le_refl _), List.take_of_length_le (by rw [HL2.out]; exact Nat.le_refl _)] at this
          exact this)
        go_wp2
        go_ret
        exact ⟨rfl, HK.out⟩
  · have hne : ((n : Int) == (m : Int)) = false := by simp; omega
    obtain rfl : R = false := by
      cases hr : R with
      | false => rfl
      | true => exact absurd (by rw [← hl1, ← hl2, hR.1 hr]) hlen
    clear hlen hR hn hm hl1 hl2 hr1 hr2 hm1 hm2
    go_enter Tryd.func39, Tryd.ntmps39
    go_wp2
    go_ret
    exact ⟨rfl, Keeps.refl [] w⟩

theorem po_eq {p q : Po} : p = q ↔ p.next = q.next ∧ p.l = q.l := by
  cases p; cases q
  simp only [Po.mk.injEq]
  exact ⟨fun ⟨a, b⟩ => ⟨b, a⟩, fun ⟨a, b⟩ => ⟨b, a⟩⟩
set_option maxRecDepth 100000 in
theorem nsame_any (a1 a2 : Option Addr) (c1 c2 : Nat) (V1 V2 : List SV) (L1 L2 : List Sn) (x1 x2 : Int) (n m : Nat) (hn : V1.length = n) (hm : V2.length = m) (R : Bool) (hR : R = true ↔ (⟨L1, x1⟩ : Po) = ⟨L2, x2⟩) (w : World) (h1 : PoolV w a1 c1 V1 ⟨L1, x1⟩) (h2 : PoolV w a2 c2 V2 ⟨L2, x2⟩) :
    Calls Tryd.prog 19 #[.agg #[.slice a1 n c1, .int .i64 x1], .agg #[.slice a2 m c2, .int .i64 x2]] w fun r w' => r = .returned (.bool R) ∧ Keeps [] w w' := by
  rw [po_eq] at hR
  dsimp only at hR
  have HB0 := Lib.hid ((Blk.new w 24 #[.slice a1 n c1, .int .i64 x1]).alloc (.cells #[.slice a2 m c2, .int .i64 x2] 24))
  have HB1 := Lib.hid (blk_at (w.alloc (.cells #[.slice a1 n c1, .int .i64 x1] 24)) 24 #[.slice a2 m c2, .int .i64 x2] (w.heap.size + 1) (by simp))
  have HK := Lib.hid (((Keeps.refl [] w).alloc (.cells #[.slice a1 n c1, .int .i64 x1] 24)).alloc (.cells #[.slice a2 m c2, .int .i64 x2] 24))
  have HP1 := Lib.hid (h1.keeps HK.out)
  have HP2 := Lib.hid (h2.keeps HK.out)
  have HN1 := Lib.hid hn
  have HN2 := Lib.hid hm
  have HR := Lib.hid hR
  have hs1 : n ≤ 1000000 := by have := h1.small; omega
  have b0 := HB0.out.cell 0
  have b1 := HB0.out.cell 1
  have d0 := HB1.out.cell 0
  have d1 := HB1.out.cell 1
  clear h1 h2 hR hn hm
  go_enter Tryd.func19, Tryd.ntmps19
  cases hc : (x1 == x2) with
  | false =>
    obtain rfl : R = false := by
      cases hr : R with
      | false => rfl
      | true => have := (HR.out.1 hr).1; simp [this] at hc
    go_wp2
    go_ret
    exact ⟨rfl, HK.out⟩
  | true =>
    have HR2 : Hid (R = true ↔ L1 = L2) := Lib.hid (by rw [HR.out]; exact ⟨fun h => h.2, fun h => ⟨by simpa using hc, h⟩⟩)
    go_wp2_with (fail)
    refine (equalFunc_any a1 a2 c1 c2 V1 V2 L1 L2 n m HN1.out HN2.out R HR2.out _ HP1.out.row HP1.out.mt HP2.out.row HP2.out.mt hs1 _ rfl).mono ?_
    rintro r w1 ⟨rfl, hk⟩
    have HK1 := Lib.hid (HK.out.trans hk)
    clear hk
    go_wp2
    go_ret
    exact ⟨rfl, HK1.out⟩
set_option maxRecDepth 100000 in
set_option maxHeartbeats 2000000 in
theorem same16_any (a1 a2 : Option Addr) (c1 c2 : Nat) (V1 V2 : List SV) (L1 L2 : List Sn) (x1 x2 : Int) (n m : Nat) (hn : V1.length = n) (hm : V2.length = m) (R : Bool) (hR : R = true ↔ (⟨L1, x1⟩ : Po) = ⟨L2, x2⟩) (w : World) (h1 : PoolV w a1 c1 V1 ⟨L1, x1⟩) (h2 : PoolV w a2 c2 V2 ⟨L2, x2⟩) :
    Calls Tryd.prog 20 #[.agg #[.slice a1 n c1, .int .i64 x1], .agg #[.slice a2 m c2, .int .i64 x2]] w fun r w' => r = .returned (.bool R) ∧ Keeps [] w w' := by
  rw [po_eq] at hR
  dsimp only at hR
  have HB0 := Lib.hid ((Blk.new w 24 #[.slice a1 n c1, .int .i64 x1]).alloc (.cells #[.slice a2 m c2, .int .i64 x2] 24))
  have HB1 := Lib.hid (blk_at (w.alloc (.cells #[.slice a1 n c1, .int .i64 x1] 24)) 24 #[.slice a2 m c2, .int .i64 x2] (w.heap.size + 1) (by simp))
  have HK0 := Lib.hid (((Keeps.refl [] w).alloc (.cells #[.slice a1 n c1, .int .i64 x1] 24)).alloc (.cells #[.slice a2 m c2, .int .i64 x2] 24))
  have hl1 : L1.length = n := by rw [← hn]; exact h1.mt.len.symm
  have hl2 : L2.length = m := by rw [← hm]; exact h2.mt.len.symm
  have hs1 : n ≤ 1000000 := by have := h1.small; omega
  have b0 := HB0.out.cell 0
  have b1 := HB0.out.cell 1
  have d0 := HB1.out.cell 0
  have d1 := HB1.out.cell 1
  cases hc : (x1 == x2) with
  | false =>
    obtain rfl : R = false := by
      cases hr : R with
      | false => rfl
      | true => have := (hR.1 hr).1; simp [this] at hc
    clear hR h1 h2 hn hm hl1 hl2
    go_enter Tryd.func20, Tryd.ntmps20
    go_wp2
    go_ret
    exact ⟨rfl, HK0.out⟩
  | true =>
    by_cases hlen : n = m
    · subst hlen
      have HR : Hid (R = true ↔ L1 = L2) := Lib.hid (by rw [hR]; exact ⟨fun h => h.2, fun h => ⟨by simpa using hc, h⟩⟩)
      obtain rfl : x1 = x2 := by simpa using hc
      have HR1 := Lib.hid h1.row
      have HR2 := Lib.hid h2.row
      have HM1 := Lib.hid h1.mt
      have HM2 := Lib.hid h2.mt
      have HN1 := Lib.hid hn
      have HN2 := Lib.hid hm
      have HL1 := Lib.hid hl1
      have HL2 := Lib.hid hl2
      obtain ⟨w0, hw0⟩ : ∃ w0, (w.alloc (.cells #[.slice a1 n c1, .int .i64 x1] 24)).alloc (.cells #[.slice a2 n c2, .int .i64 x1] 24) = w0 := ⟨_, rfl⟩
      rw [hw0] at HB0 HB1 HK0 b0 b1 d0 d1
      clear hR h1 h2 hn hm hl1 hl2 hc
      go_enter Tryd.func20, Tryd.ntmps20
      go_wp2
      clear hw0 b0 b1 d0 d1
      go_loopw [5] (fun i wr => ∃ k : Nat, k ≤ n ∧ i = .int .i64 k ∧ Hid (L1.take k = L2.take k) ∧ Hid (Keeps [] w0 wr)) (fun i _ => n - (intOf i).toNat)
      case atStart => exact ⟨0, Nat.zero_le _, rfl, Lib.hid rfl, Lib.hid (Keeps.refl [] w0)⟩
      case round =>
        obtain ⟨k, hk, rfl, HE, HK⟩ := hrel
        have p0 : wr.cell? ⟨w.heap.size, 0, none⟩ = some (.slice a1 n c1) := (HB0.out.keeps HK.out (by simp)).cell 0
        have p1 : wr.cell? ⟨w.heap.size + 1, 0, none⟩ = some (.slice a2 n c2) := (HB1.out.keeps HK.out (by simp)).cell 0
        by_cases hlt : k < n
        · have hk1 : k < V1.length := by rw [HN1.out]; exact hlt
          have hk2 : k < V2.length := by rw [HN2.out]; exact hlt
          have hj1 : k < L1.length := by rw [HL1.out]; exact hlt
          have hj2 : k < L2.length := by rw [HL2.out]; exact hlt
          obtain ⟨g1, o1, cs1, fz1, rfl, hb1, hat1⟩ := HR1.out (by rintro rfl; simp at hk1)
          obtain ⟨g2, o2, cs2, fz2, rfl, hb2, hat2⟩ := HR2.out (by rintro rfl; simp at hk2)
          obtain ⟨⟨xc, xa, xl, xp, xu⟩, hx⟩ : ∃ x, V1[k] = x := ⟨_, rfl⟩
          obtain ⟨⟨yc, ya, yl, yp, yu⟩, hy⟩ : ∃ y, V2[k] = y := ⟨_, rfl⟩
          obtain ⟨s, hs⟩ : ∃ s, L1[k] = s := ⟨_, rfl⟩
          obtain ⟨t, ht⟩ : ∃ t, L2[k] = t := ⟨_, rfl⟩
          have q1 := hat1 k hk1
          have q2 := hat2 k hk2
          have e1 := HM1.out.get k hk1 hj1
          have e2 := HM2.out.get k hk2 hj2
          rw [hx, hs] at e1
          rw [hy, ht] at e2
          rw [hx] at q1
          rw [hy] at q2
          dsimp only at q1 q2
          obtain ⟨x0, x1', x2⟩ := q1
          obtain ⟨y0, y1', y2⟩ := q2
          have hkw := HK0.out.trans HK.out
          rw [← hkw.cell (Array.getElem?_eq_some_iff.1 hb1).1 (by simp)] at x0 x1' x2
          rw [← hkw.cell (Array.getElem?_eq_some_iff.1 hb2).1 (by simp)] at y0 y1' y2
          have i1 : (0 : Int) ≤ (k : Int) := by omega
          have i2 : (k : Int) < (n : Int) := by omega
          have HX : Hid (L1[k]? = some s) := Lib.hid (by rw [List.getElem?_eq_getElem hj1, hs])
          have HY : Hid (L2[k]? = some t) := Lib.hid (by rw [List.getElem?_eq_getElem hj2, ht])
          have yk := ((Keeps.refl [] wr).alloc (.cells #[.int .i64 xc, .slice xa xl xp, .int .i64 xu] 39))
          have hg2 : g2 < wr.heap.size := Nat.lt_of_lt_of_le (Array.getElem?_eq_some_iff.1 hb2).1 hkw.size
          have z0 := (yk.cell (p := ⟨g2, o2 + k * 3, none⟩) hg2 (by simp)).trans y0
          have z1 := (yk.cell (p := ⟨g2, o2 + k * 3 + 1, none⟩) hg2 (by simp)).trans y1'
          have z2 := (yk.cell (p := ⟨g2, o2 + k * 3 + 2, none⟩) hg2 (by simp)).trans y2
          have p2 : (wr.alloc (.cells #[.int .i64 xc, .slice xa xl xp, .int .i64 xu] 39)).cell? ⟨w.heap.size + 1, 0, none⟩ = some (.slice (some ⟨g2, o2, none⟩) n c2) := ((HB1.out.keeps HK.out (by simp)).keeps yk (by simp)).cell 0
          have HBX := Lib.hid ((Blk.new wr 39 #[.int .i64 xc, .slice xa xl xp, .int .i64 xu]).alloc (.cells #[.int .i64 yc, .slice ya yl yp, .int .i64 yu] 39))
          have HBY := Lib.hid (blk_at (wr.alloc (.cells #[.int .i64 xc, .slice xa xl xp, .int .i64 xu] 39)) 39 #[.int .i64 yc, .slice ya yl yp, .int .i64 yu] (wr.heap.size + 1) (by simp))
          have HK2 := Lib.hid (HK.out.trans (yk.alloc (.cells #[.int .i64 yc, .slice ya yl yp, .int .i64 yu] 39)))
          have d0 := HBX.out.cell 0
          have d1 := HBX.out.cell 1
          have d2 := HBX.out.cell 2
          have f0 := HBY.out.cell 0
          have f1 := HBY.out.cell 1
          have f2 := HBY.out.cell 2
          have E1 := Lib.hid (e1.keeps (HK0.out.trans HK2.out))
          have E2 := Lib.hid (e2.keeps (HK0.out.trans HK2.out))
          clear hx hy hs ht hat1 hat2 hb1 hb2 hk1 hk2 hj1 hj2 e1 e2 yk hg2 hkw
          have HIF := Lib.hid (E1.out.eq_iff E2.out)
          have hbad : ¬ s = t → R = false := fun hne => by
            cases hr : R with
            | false => rfl
            | true =>
              have e := HR.out.1 hr
              subst e
              have h1 := HX.out
              rw [HY.out] at h1
              injection h1 with h1
              exact absurd h1.symm hne
          have HBAD := Lib.hid hbad
          clear hbad
          cases hc1 : (xc == yc) with
          | false =>
            obtain rfl : R = false := HBAD.out (fun h => by have := (HIF.out.1 h).1; dsimp only at this; simp [this] at hc1)
            have hne1 : (xc != yc) = true := by simp only [bne, hc1, Bool.not_false]
            clear hc1
            go_wp2
            go_ret
            exact ⟨rfl, HK0.out.trans HK2.out⟩
          | true =>
            obtain rfl : xc = yc := by simpa using hc1
            cases hu1 : (xu == yu) with
            | false =>
              obtain rfl : R = false := HBAD.out (fun h => by have := (HIF.out.1 h).2.1; dsimp only at this; simp [this] at hu1)
              have hne1 : (xu != yu) = true := by simp only [bne, hu1, Bool.not_false]
              clear hu1
              go_wp2
              go_ret
              exact ⟨rfl, HK0.out.trans HK2.out⟩
            | true =>
              obtain rfl : xu = yu := by simpa using hu1
              obtain ⟨b, hb⟩ : ∃ b : Bool, (b = true ↔ s.items = t.items) := ⟨@decide (s.items = t.items) (Classical.propDecidable _), by simp⟩
              have HB := Lib.hid hb
              have HST : Hid (s = t ↔ s.items = t.items) := Lib.hid (by rw [HIF.out]; exact ⟨fun h => h.2.2, fun h => ⟨rfl, rfl, h⟩⟩)
              clear hb
              go_wp2_with (fail)
              refine (samestr_any xa ya xp yp s.items t.items xl yl E1.out.2.2.1.symm E2.out.2.2.1.symm b HB.out _ E1.out.2.2.2 E2.out.2.2.2).mono ?_
              rintro r w1 ⟨rfl, hk1⟩
              have HK3 := Lib.hid (HK2.out.trans hk1)
              clear hk1 x0 x1' x2 y0 y1' y2 z0 z1 z2 d0 d1 d2 f0 f1 f2 p0 p1 p2
              cases b with
              | true =>
                have HE2 : Hid (L1.take (k + 1) = L2.take (k + 1)) := Lib.hid (by rw [take_snoc HX.out, take_snoc HY.out, HE.out, HST.out.2 (HB.out.1 rfl)])
                go_wp2
                go_roundw
                case rel => exact ⟨k + 1, by omega, by go_num, HE2, HK3⟩
                case measure => simp [intOf]; omega
              | false =>
                obtain rfl : R = false := HBAD.out (fun h => Bool.false_ne_true (HB.out.2 (HST.out.1 h)))
                go_wp2
                go_ret
                exact ⟨rfl, HK0.out.trans HK3.out⟩
        · obtain rfl : k = n := by omega
          obtain rfl : R = true := HR.out.2 (by
            have := HE.out
            rw [List.take_of_length_le (by rw [HL1.out]; exact Nat.le_refl _), List.take_of_length_le (by rw [HL2.out]; exact Nat.le_refl _)] at this
            exact this)
          go_wp2
          go_ret
          exact ⟨rfl, HK0.out.trans HK.out⟩
    · have hne : ((n : Int) == (m : Int)) = false := by simp; omega
      obtain rfl : R = false := by
        cases hr : R with
        | false => rfl
        | true => exact absurd (by rw [← hl1, ← hl2, (hR.1 hr).2]) hlen
      obtain rfl : x1 = x2 := by simpa using hc
      clear hlen hR hn hm hl1 hl2 h1 h2 hc
      go_enter Tryd.func20, Tryd.ntmps20
      go_wp2
      go_ret
      exact ⟨rfl, HK0.out⟩
end Go.Proofs.YtbcppmcjbcnlbaaDoor
