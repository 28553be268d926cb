/- The walk of find. -/
import Derived.Test.YtbcppmcjbcnlbaaDoorSnapM
namespace Go.Proofs.YtbcppmcjbcnlbaaDoor
open Go.RowKit Go.Shelf
attribute [local go_sem] Oper.semAt_some
attribute [local go_sem ↓] Go.wp_at_zero Go.wp_at_succ

theorem pin_any (a : Option Addr) (c : Nat) (V : List SV) (p : Po) (n : Nat) (hn : V.length = n) (ia : Option Addr) (ic m : Nat) (xs : List ByteArray) (hm : xs.length = m) (now : Int) (w : World) (hP : PoolV w a c V p) (hI : StrsV w ia ic xs) (e : Nat → Addr) (he : Env w e)
    (q : Po) (cur err : Int) (hA : pinA p xs now = (q, cur, err)) :
    Calls Tryd.prog 12 #[.agg #[.slice a n c, .int .i64 p.next], .slice ia m ic, .int .i64 now] w (PinR w q cur err) := by
  cases hc : (checkB p now && itemsB xs && decide (p.next < 1000000000000)) with
  | false =>
    rw [pinA_bad hc] at hA
    cases hA
    exact pin_bad a c V p n hn ia ic m xs hm now w hP hI e he hc
  | true =>
    rw [pinA_ok hc] at hA
    cases hA
    simp only [Bool.and_eq_true, decide_eq_true_eq] at hc
    exact pin_ok a c V p n hn ia ic m xs hm now w hP hI e he hc.1.1 hc.1.2 hc.2
theorem pin_fr (a : Option Addr) (c : Nat) (V : List SV) (p : Po) (n : Nat) (hn : V.length = n) (ia : Option Addr) (ic m : Nat) (xs : List ByteArray) (hm : xs.length = m) (now : Int) (w : World) (hP : PoolV w a c V p) (hI : StrsV w ia ic xs) (e : Nat → Addr) (he : Env w e)
    (q : Po) (cur err : Int) (hA : pinA p xs now = (q, cur, err)) :
    Calls Tryd.prog 12 #[.agg #[.slice a n c, .int .i64 p.next], .slice ia m ic, .int .i64 now] w (PinRF w q cur err) := by
  cases hc : (checkB p now && itemsB xs && decide (p.next < 1000000000000)) with
  | false =>
    rw [pinA_bad hc] at hA
    cases hA
    exact (pin_bad a c V p n hn ia ic m xs hm now w hP hI e he hc).mono fun _ _ h => h.fresh0
  | true =>
    rw [pinA_ok hc] at hA
    cases hA
    simp only [Bool.and_eq_true, decide_eq_true_eq] at hc
    exact pin_okF a c V p n hn ia ic m xs hm now w hP hI e he hc.1.1 hc.1.2 hc.2

def findA (p : Po) (cursor from_ n now : Int) : Int × Option Nat :=
  if checkB p now then (if n < 1 ∨ 10 < n then (0, some 1) else match findN (hitB cursor from_ now) p.l with
    | none => (0, some 2)
    | some i => (i, none)) else (0, some 0)
theorem findN_snoc {f : Sn → Bool} : ∀ {l : List Sn} (s : Sn), findN f l = none → findN f (l ++ [s]) = if f s then some l.length else none
  | [], s, _ => by simp only [List.nil_append, findN]; split <;> rfl
  | x :: l, s, h => by
    unfold findN at h
    split at h
    · cases h
    · rename_i hx
      have h2 : findN f l = none := by
        cases hf : findN f l with
        | none => rfl
        | some i => rw [hf] at h; cases h
      rw [List.cons_append, findN, if_neg hx, findN_snoc s h2]
      split <;> rfl
theorem findN_app {f : Sn → Bool} {k : Nat} : ∀ {l : List Sn} (m : List Sn), findN f l = some k → findN f (l ++ m) = some k
  | [], _, h => by cases h
  | x :: l, m, h => by
    unfold findN at h
    rw [List.cons_append, findN]
    split at h
    · rename_i hx; rw [if_pos hx]; exact h
    · rename_i hx
      rw [if_neg hx]
      cases hf : findN f l with
      | none => rw [hf] at h; cases h
      | some i =>
        rw [hf] at h
        rw [findN_app m hf]
        exact h
theorem findN_take {f : Sn → Bool} {L : List Sn} {k : Nat} {s : Sn} (h : L[k]? = some s) (hn : findN f (L.take k) = none) : findN f (L.take (k + 1)) = if f s then some k else none := by
  rw [take_snoc h, findN_snoc s hn]
  have : (L.take k).length = k := by rw [List.length_take]; have := (List.getElem?_eq_some_iff.1 h).1; omega
  rw [this]
theorem findN_hit {f : Sn → Bool} {L : List Sn} {k : Nat} {s : Sn} (h : L[k]? = some s) (hn : findN f (L.take k) = none) (hf : f s = true) : findN f L = some k := by
  have := findN_take h hn
  rw [if_pos hf] at this
  have h2 := findN_app (L.drop (k + 1)) this
  rwa [List.take_append_drop] at h2

/-- The variables of find. -/
structure FindB (w A : World) (a : Option Addr) (n c : Nat) (x cursor from_ now : Int) : Prop where
  b0 : Blk A w.heap.size 24 #[.slice a n c, .int .i64 x]
  b1 : Blk A (w.heap.size + 1) 3 #[.int .i64 cursor]
  b2 : Blk A (w.heap.size + 1 + 1) 3 #[.int .i64 from_]
  b3 : Blk A (w.heap.size + 1 + 1 + 1) 3 #[.int .i64 now]
  b4 : Blk A (w.heap.size + 1 + 1 + 1 + 1) 3 #[.int .i64 0]
  b5 : Blk A (w.heap.size + 1 + 1 + 1 + 1 + 1) 48 #[.nilIface]
theorem FindB.keeps {w A A' : World} {a : Option Addr} {n c : Nat} {x cursor from_ now : Int} (h : FindB w A a n c x cursor from_ now) (hk : Keeps [] A A') : FindB w A' a n c x cursor from_ now :=
  ⟨h.b0.keeps hk (by simp), h.b1.keeps hk (by simp), h.b2.keeps hk (by simp), h.b3.keeps hk (by simp), h.b4.keeps hk (by simp), h.b5.keeps hk (by simp)⟩
theorem FindB.low {B : Nat} {w A A' : World} {a : Option Addr} {n c : Nat} {x cursor from_ now : Int} (h : FindB w A a n c x cursor from_ now) (hB : w.heap.size + 6 ≤ B) (hk : Below B A A') : FindB w A' a n c x cursor from_ now :=
  ⟨blk_low h.b0 (by omega) hk, blk_low h.b1 (by omega) hk, blk_low h.b2 (by omega) hk, blk_low h.b3 (by omega) hk, blk_low h.b4 (by omega) hk, blk_low h.b5 (by omega) hk⟩
theorem findB_new (w : World) (a : Option Addr) (n c : Nat) (x cursor from_ now : Int) :
    FindB w ((((((w.alloc (.cells #[.slice a n c, .int .i64 x] 24)).alloc (.cells #[.int .i64 cursor] 3)).alloc (.cells #[.int .i64 from_] 3)).alloc (.cells #[.int .i64 now] 3)).alloc (.cells #[.int .i64 0] 3)).alloc (.cells #[.nilIface] 48)) a n c x cursor from_ now :=
  ⟨((((((blk_at _ _ _ _ rfl).alloc _).alloc _).alloc _).alloc _).alloc _), ((((blk_at _ _ _ _ (by simp)).alloc _).alloc _).alloc _).alloc _, (((blk_at _ _ _ _ (by simp)).alloc _).alloc _).alloc _, ((blk_at _ _ _ _ (by simp)).alloc _).alloc _, (blk_at _ _ _ _ (by simp)).alloc _, blk_at _ _ _ _ (by simp)⟩

set_option maxRecDepth 100000 in
set_option maxHeartbeats 4000000 in
theorem find_any (a : Option Addr) (c : Nat) (V : List SV) (p : Po) (n : Nat) (hn : V.length = n) (cursor from_ num now : Int) (w : World) (hP : PoolV w a c V p) (e : Nat → Addr) (he : Env w e)
    (i : Int) (o : Option Nat) (hA : findA p cursor from_ num now = (i, o)) :
    Calls Tryd.prog 30 #[.agg #[.slice a n c, .int .i64 p.next], .int .i64 cursor, .int .i64 from_, .int .i64 num, .int .i64 now] w fun r w' => r = .returned (.tuple #[.int .i64 i, errV e o]) ∧ Keeps [] w w' := by
  refine (callsIn_wide (n := 9)).1 ?_
  obtain ⟨x, hx⟩ : ∃ x, p.next = x := ⟨_, rfl⟩
  obtain ⟨y, hy⟩ : ∃ y, checkB p now = y := ⟨_, rfl⟩
  have hcc := fun W (hk : Keeps [] w W) => check_any a c V p n hn now W (hP.keeps hk) e (he.keep hk) y hy
  rw [hx] at hcc ⊢
  have hsm : n ≤ 1000000 := by rw [← hn]; exact hP.small
  have HCC := Lib.hid hcc
  have HE := Lib.hid he
  have HP := Lib.hid hP
  have HN := Lib.hid hn
  have HA := Lib.hid hA
  have HY := Lib.hid hy
  have HB := Lib.hid (findB_new w a n c x cursor from_ now)
  have HK := Lib.hid ((((((Keeps.refl [] w).alloc (.cells #[.slice a n c, .int .i64 x] 24)).alloc (.cells #[.int .i64 cursor] 3)).alloc (.cells #[.int .i64 from_] 3)).alloc (.cells #[.int .i64 now] 3)).alloc (.cells #[.int .i64 0] 3) |>.alloc (.cells #[.nilIface] 48))
  clear hcc he hP hx hn hA hy
  refine callsIn_of_wp_marks Tryd.func30 rfl trivial ?_ rfl
  simp only [Tryd.ntmps30, List.size_toArray, List.length_cons, List.length_nil, Nat.reduceAdd, Nat.reduceSub, Array.replicate_succ, Array.replicate_zero, List.push_toArray, List.append_toArray, List.nil_append, List.cons_append]
  gi_wp2_with (fail)
  refine ⟨trivial, (callsIn_wide.2 (HCC.out _ HK.out)).mono ?_⟩
  rintro r w1 ⟨rfl, hk⟩
  have HB := Lib.hid (HB.out.keeps hk)
  have HK := Lib.hid (HK.out.trans hk)
  clear hk
  have r0 : w1.cell? ⟨w.heap.size + 1 + 1 + 1 + 1, 0, none⟩ = some (.int .i64 0) := HB.out.b4.cell 0
  have r1 : w1.cell? ⟨w.heap.size + 1 + 1 + 1 + 1 + 1, 0, none⟩ = some .nilIface := HB.out.b5.cell 0
  have g0 := HB.out.b4.frozen 0
  have g1 := HB.out.b5.frozen 0
  have hst : ∀ u, Hid (Keeps [] w ((w1.setCell ⟨w.heap.size + 1 + 1 + 1 + 1, 0, none⟩ (.int .i64 0)).setCell ⟨w.heap.size + 1 + 1 + 1 + 1 + 1, 0, none⟩ u)) := fun u => Lib.hid ((HK.out.setCell (p := ⟨w.heap.size + 1 + 1 + 1 + 1, 0, none⟩) (.inr (by dsimp only; omega)) (.int .i64 0)).setCell (p := ⟨w.heap.size + 1 + 1 + 1 + 1 + 1, 0, none⟩) (.inr (by dsimp only; omega)) u)
  have HST := Lib.hid hst
  clear hst
  cases y with
  | false =>
    have hA := HA.out
    unfold findA at hA
    rw [HY.out] at hA
    cases hA
    unfold errV
    gi_wp2
    have q0 : _ = some (Value.int .i64 0) := ((HB.out.b4.set_ 0 (.int .i64 0)).far (p := ⟨w.heap.size + 1 + 1 + 1 + 1 + 1, 0, none⟩) (by dsimp only; omega) (.iface 92 (.pointer (some (e 0))))).cell 0
    have q1 : _ = some (Value.iface 92 (.pointer (some (e 0)))) := ((HB.out.b5.far (p := ⟨w.heap.size + 1 + 1 + 1 + 1, 0, none⟩) (by dsimp only; omega) (.int .i64 0)).set_ 0 (.iface 92 (.pointer (some (e 0))))).cell 0
    exact ⟨.tuple #[.int .i64 0, .iface 92 (.pointer (some (e 0)))], by simp [results, Tryd.results30, go_sem, q0, q1], rfl, (HST.out _).out⟩
  | true =>
    unfold errV
    have e1 := (HE.out.keep HK.out).cell 1 (by simp)
    by_cases hnn : num < 1 ∨ 10 < num
    · have hA := HA.out
      unfold findA at hA
      rw [HY.out, if_pos rfl, if_pos hnn] at hA
      cases hA
      rcases (show num < 1 ∨ (¬ num < 1 ∧ 10 < num) by omega) with h1 | ⟨h1, h2⟩
      all_goals
        clear hnn
        gi_wp2
        gi_region
        gi_wp2
        have q0 : _ = some (Value.int .i64 0) := (HB.out.b4.set_ 0 (.int .i64 0)).cell 0
        have q1 : _ = some (Value.iface 92 (.pointer (some (e 1)))) := ((HB.out.b5.far (p := ⟨w.heap.size + 1 + 1 + 1 + 1, 0, none⟩) (by dsimp only; omega) (.int .i64 0)).set_ 0 (.iface 92 (.pointer (some (e 1))))).cell 0
        exact ⟨.tuple #[.int .i64 0, .iface 92 (.pointer (some (e 1)))], by simp [results, Tryd.results30, go_sem, q0, q1], rfl, (HST.out _).out.drew⟩
    · have h1 : ¬ num < 1 := by omega
      have h2 : ¬ 10 < num := by omega
      have hA := HA.out
      unfold findA at hA
      rw [HY.out, if_pos rfl, if_neg hnn] at hA
      have HA := Lib.hid hA
      have p0 : w1.cell? ⟨w.heap.size, 0, none⟩ = some (.slice a n c) := HB.out.b0.cell 0
      have p1 : w1.cell? ⟨w.heap.size, 1, none⟩ = some (.int .i64 x) := HB.out.b0.cell 1
      clear hnn hA r0 r1 g0 g1 e1
      gi_wp2_with (fail)
      refine ⟨trivial, (callsIn_wide.2 (snaps_any _ _ _ _ _)).mono ?_⟩
      rintro r w2 ⟨rfl, rfl⟩
      gi_wp2_with (fail)
      obtain ⟨W0, hW0⟩ : ∃ W0, w1.alloc (.cells #[.slice a n c, .int .i64 x] 59) = W0 := ⟨_, rfl⟩
      have hs0 : W0.heap.size = w1.heap.size + 1 := by rw [← hW0]; simp
      have hw6 : w.heap.size + 6 ≤ w1.heap.size := HB.out.b5.lt
      have hkW : Keeps [] w1 W0 := by rw [← hW0]; exact (Keeps.refl [] w1).alloc _
      have hB0 : Below w.heap.size w W0 := (HK.out.trans hkW).below (Nat.le_refl _) (by simp)
      have hF0 := HB.out.keeps hkW
      have bp : W0.cell? ⟨w1.heap.size, 0, none⟩ = some (.slice a V.length c) := by
        rw [← hW0, HN.out]; exact (Blk.new w1 59 _).cell 0
      rw [hW0]
      have HTK := Lib.hid (check_ticks HY.out)
      clear hW0 hkW p0 p1
      refine wpIn_rangeC rfl (by omega) (gf := 54) (lb := #[.pointer (some ⟨w1.heap.size, 0, none⟩)]) rfl trivial (enters_of Tryd.func54 (by kernel_rfl) rfl) (snaps_seq 8 w1.heap.size a c V (by rw [HN.out]; exact hsm) W0 bp) (Below.refl _ _) (fun _ => rfl)
        (fun pre A => Below w.heap.size w A ∧ FindB w A a n c x cursor from_ now ∧ findN (hitB cursor from_ now) (p.l.take pre.length) = none)
        (fun _ A => Below w.heap.size w A ∧ ∃ k : Nat, Blk A (w.heap.size + 1 + 1 + 1 + 1) 3 #[.int .i64 (k : Int)] ∧ Blk A (w.heap.size + 1 + 1 + 1 + 1 + 1) 48 #[.nilIface] ∧ findN (hitB cursor from_ now) p.l = some k)
        (fun s A A' h hb => ⟨h.1.trans (hb.mono (by omega)), h.2.1.low (by omega) hb, h.2.2⟩)
        (fun s A A' h hb => by
          obtain ⟨h1, k, h2, h3, h4⟩ := h
          exact ⟨h1.trans (hb.mono (by omega)), k, blk_low h2 (by omega) hb, blk_low h3 (by omega) hb, h4⟩)
        (fun s A h => HP.out.row.keeps (Keeps.of_below h.1 [])) ⟨hB0, hF0, rfl⟩
        (fun x' b => { tmps := #[.agg #[.slice a n c, .int .i64 x], .int .i64 cursor, .int .i64 from_, .int .i64 num, .int .i64 now, .pointer (some ⟨w.heap.size, 0, none⟩), .pointer (some ⟨w.heap.size + 1, 0, none⟩), .pointer (some ⟨w.heap.size + 1 + 1, 0, none⟩), undef, .pointer (some ⟨w.heap.size + 1 + 1 + 1, 0, none⟩), .pointer (some ⟨w.heap.size + 1 + 1 + 1 + 1, 0, none⟩), .pointer (some ⟨w.heap.size + 1 + 1 + 1 + 1 + 1, 0, none⟩), .nilIface, .int .i64 (x'.2 : Int), .pointer (some ⟨b, 0, none⟩), .agg #[.slice a n c, .int .i64 x], .int .i64 now, .nilIface, .nilIface, .bool false, undef, .int .i64 num, .bool (decide (num < 1)), .bool (decide (num < 1)), .int .i64 num, .bool (decide (10 < num)), .bool (decide (num < 1) || decide (10 < num)), undef, .agg #[.slice a n c, .int .i64 x], .agg #[.slice a n c, .int .i64 x], .func (.func 54) #[] #[.pointer (some ⟨w1.heap.size, 0, none⟩)], .int .i64 (x'.2 : Int), .agg #[.int .i64 x'.1.cur, .slice x'.1.ia x'.1.il x'.1.ic, .int .i64 x'.1.used], undef, undef, undef, undef, undef, undef, undef, undef, undef, undef, undef, undef, undef, undef, undef, undef, undef, undef, undef, undef, undef, undef, undef, undef], defers := [] })
        (fun x' => .cells #[.int .i64 x'.1.cur, .slice x'.1.ia x'.1.il x'.1.ic, .int .i64 x'.1.used] 39) ?assign ?body ?done ?stop
      case assign =>
        intro l x' W K hK
        unfold itemS
        gi_wp2
        exact hK
      case body =>
        rintro l pre x' b W ⟨hB, hF, hI⟩ hpre hb hbx
        obtain ⟨hk, hpr, rfl⟩ := zip_pre hpre
        obtain ⟨k, hkk⟩ : ∃ k, pre.length = k := ⟨_, rfl⟩
        have hkL : k < p.l.length := by rw [← HP.out.mt.len, ← hkk]; exact hk
        have hm0 := HP.out.mt.get pre.length hk (by rw [hkk]; exact hkL)
        obtain ⟨y, hy⟩ : ∃ y, V[pre.length] = y := ⟨_, rfl⟩
        obtain ⟨s, hs⟩ : ∃ s, p.l[k] = s := ⟨_, rfl⟩
        have hm : Mt1 w y s := by
          simp only [hkk] at hm0 hy
          rw [hy, hs] at hm0; exact hm0
        have hb2 : Blk W b 39 #[.int .i64 y.cur, .slice y.ia y.il y.ic, .int .i64 y.used] := by
          have := hbx
          simp only [hy] at this
          exact this
        simp only [hy]
        have HL1 : Hid ((pre ++ [(y, pre.length)]).length = k + 1) := Lib.hid (by rw [List.length_append, hkk]; rfl)
        have HS : Hid (p.l[k]? = some s) := Lib.hid (by rw [List.getElem?_eq_getElem hkL, hs])
        have HKK := Lib.hid hkk
        have HNO : Hid (findN (hitB cursor from_ now) (p.l.take k) = none) := Lib.hid (by rw [← hkk]; exact hI)
        obtain ⟨u0, hu0⟩ : ∃ u0, y.cur = u0 := ⟨_, rfl⟩
        obtain ⟨u2, hu2⟩ : ∃ u2, y.used = u2 := ⟨_, rfl⟩
        obtain ⟨il, hil⟩ : ∃ il, y.il = il := ⟨_, rfl⟩
        have d0 : W.cell? ⟨b, 0, none⟩ = some (.int .i64 u0) := by rw [← hu0]; exact hb2.cell 0
        have d1 : W.cell? ⟨b, 1, none⟩ = some (.slice y.ia il y.ic) := by rw [← hil]; exact hb2.cell 1
        have d2 : W.cell? ⟨b, 2, none⟩ = some (.int .i64 u2) := by rw [← hu2]; exact hb2.cell 2
        have e1 : W.cell? ⟨w.heap.size + 1, 0, none⟩ = some (.int .i64 cursor) := hF.b1.cell 0
        have e2 : W.cell? ⟨w.heap.size + 1 + 1, 0, none⟩ = some (.int .i64 from_) := hF.b2.cell 0
        have e3 : W.cell? ⟨w.heap.size + 1 + 1 + 1, 0, none⟩ = some (.int .i64 now) := hF.b3.cell 0
        have r0 : W.cell? ⟨w.heap.size + 1 + 1 + 1 + 1, 0, none⟩ = some (.int .i64 0) := hF.b4.cell 0
        have r1 : W.cell? ⟨w.heap.size + 1 + 1 + 1 + 1 + 1, 0, none⟩ = some .nilIface := hF.b5.cell 0
        have g0 := hF.b4.frozen 0
        have g1 := hF.b5.frozen 0
        have HU0 : Hid (s.cur = u0) := Lib.hid (by rw [← hu0]; exact hm.1.symm)
        have HU2 : Hid (s.used = u2) := Lib.hid (by rw [← hu2]; exact hm.2.1.symm)
        have HIL : Hid (s.items.length = il) := Lib.hid (by rw [← hil]; exact hm.2.2.1.symm)
        have hwr : IntKind.i64.wrap (now - u2) = now - u2 := by
          obtain ⟨ht1, ⟨n1, n2⟩, _⟩ := HTK.out
          obtain ⟨t1, t2⟩ := ht1 s (by rw [← hs]; exact List.getElem_mem _)
          rw [HU2.out] at t1 t2
          exact IntWalk.i64_in _ (by omega)
        have HBL := Lib.hid hB
        have HFL := Lib.hid hF
        have hs1 : w.heap.size + 7 ≤ W0.heap.size := by omega
        clear hs hpr hk hpre hkL hy hkk hs0 hB0 bp hm0 hm hb2 hbx hB hF hI hF0 hu0 hu2 hil hw6
        have hmiss : hitB cursor from_ now s = false → findN (hitB cursor from_ now) (p.l.take (pre ++ [(y, pre.length)]).length) = none := fun hh => by
          rw [HL1.out, findN_take HS.out HNO.out, if_neg (by rw [hh]; simp)]
        have HMISS := Lib.hid hmiss
        clear hmiss
        by_cases c1 : u0 = cursor
        · subst c1
          by_cases c2 : now - u2 < 1000
          · by_cases c3 : 0 ≤ from_
            · by_cases c4 : from_ ≤ (il : Int)
              · have hhit : hitB u0 from_ now s = true := by unfold hitB freshB; rw [HU0.out, HU2.out, HIL.out]; simp; omega
                have HHIT := Lib.hid (findN_hit HS.out HNO.out hhit)
                have HKV : Hid (((pre.length : Nat) : Int) = (k : Int)) := Lib.hid (by rw [HKK.out])
                clear hhit
                gi_wp2
                refine ⟨(FarK.setCell (p := ⟨w.heap.size + 1 + 1 + 1 + 1, 0, none⟩) (by dsimp only; omega) W _).trans (FarK.setCell (p := ⟨w.heap.size + 1 + 1 + 1 + 1 + 1, 0, none⟩) (by dsimp only; omega) _ _), (HBL.out.setCell (p := ⟨w.heap.size + 1 + 1 + 1 + 1, 0, none⟩) (by dsimp only; omega) _).setCell (p := ⟨w.heap.size + 1 + 1 + 1 + 1 + 1, 0, none⟩) (by dsimp only; omega) _, k, ?_, ?_, HHIT.out⟩
                · rw [← HKV.out]
                  exact (HFL.out.b4.set_ 0 _).far (p := ⟨w.heap.size + 1 + 1 + 1 + 1 + 1, 0, none⟩) (by dsimp only; omega) _
                · exact (HFL.out.b5.far (p := ⟨w.heap.size + 1 + 1 + 1 + 1, 0, none⟩) (by dsimp only; omega) _).set_ 0 .nilIface
              · have hbad : hitB u0 from_ now s = false := by unfold hitB freshB; rw [HU0.out, HU2.out, HIL.out]; simp; omega
                have HBAD := Lib.hid hbad
                clear hbad
                gi_wp2
                exact ⟨FarK.refl _ _, HBL.out, HFL.out, HMISS.out HBAD.out⟩
            · have hbad : hitB u0 from_ now s = false := by unfold hitB freshB; rw [HU0.out, HU2.out, HIL.out]; simp; omega
              have HBAD := Lib.hid hbad
              clear hbad
              gi_wp2
              exact ⟨FarK.refl _ _, HBL.out, HFL.out, HMISS.out HBAD.out⟩
          · have hbad : hitB u0 from_ now s = false := by unfold hitB freshB; rw [HU0.out, HU2.out, HIL.out]; simp; omega
            have HBAD := Lib.hid hbad
            clear hbad
            gi_wp2
            exact ⟨FarK.refl _ _, HBL.out, HFL.out, HMISS.out HBAD.out⟩
        · have hbad : hitB cursor from_ now s = false := by unfold hitB; rw [HU0.out]; simp [c1]
          have HBAD := Lib.hid hbad
          have hc1 : (u0 == cursor) = false := by simp [c1]
          clear hbad c1
          gi_wp2
          exact ⟨FarK.refl _ _, HBL.out, HFL.out, HMISS.out HBAD.out⟩
      case done =>
        rintro D W hD ⟨hB, hF, hI⟩ hK
        have hD2 : w.heap.size + 7 ≤ D := by omega
        have hA := HA.out
        rw [List.take_of_length_le (by rw [List.length_zipIdx, HP.out.mt.len]; exact Nat.le_refl _)] at hI
        rw [hI] at hA
        cases hA
        have e2 := (HE.out.keep (Keeps.of_below hB [])).cell 2 (by simp)
        have r0 : W.cell? ⟨w.heap.size + 1 + 1 + 1 + 1, 0, none⟩ = some (.int .i64 0) := hF.b4.cell 0
        have r1 : W.cell? ⟨w.heap.size + 1 + 1 + 1 + 1 + 1, 0, none⟩ = some .nilIface := hF.b5.cell 0
        have g0 := hF.b4.frozen 0
        have g1 := hF.b5.frozen 0
        have HB := Lib.hid hB
        have HF := Lib.hid hF
        have hKD : ∀ u, ((W.drew.setCell ⟨w.heap.size + 1 + 1 + 1 + 1, 0, none⟩ (.int .i64 0)).setCell ⟨w.heap.size + 1 + 1 + 1 + 1 + 1, 0, none⟩ u).heap[D]? = some (.deferred (some [])) := fun u => by
          rw [Below.heap_setCell _ _ _ _ (by dsimp only; omega), Below.heap_setCell _ _ _ _ (by dsimp only; omega)]; exact hK
        have HKD := Lib.hid hKD
        clear hB hF hI hs0 hB0 bp hF0 hK hKD
        gi_wp2
        gi_region
        gi_wp2
        refine ⟨by simp, .inl ⟨_, _, rfl, run_takeDeferred (HKD.out _), ?_⟩⟩
        have q0 := cell_putD (((HF.out.b4.set_ 0 (.int .i64 0)).far (p := ⟨w.heap.size + 1 + 1 + 1 + 1 + 1, 0, none⟩) (by dsimp only; omega) (.iface 92 (.pointer (some (e 2))))).drew) (D := D) (by omega)
        have q1 := cell_putD (((HF.out.b5.far (p := ⟨w.heap.size + 1 + 1 + 1 + 1, 0, none⟩) (by dsimp only; omega) (.int .i64 0)).set_ 0 (.iface 92 (.pointer (some (e 2))))).drew) (D := D) (by omega)
        have q0 : _ = some (Value.int .i64 0) := q0
        have q1 : _ = some (Value.iface 92 (.pointer (some (e 2)))) := q1
        refine ⟨.tuple #[.int .i64 0, .iface 92 (.pointer (some (e 2)))], by simp [results, Tryd.results30, go_sem, q0, q1], rfl, Keeps.of_below ((((HB.out.setCell (p := ⟨w.heap.size + 1 + 1 + 1 + 1, 0, none⟩) (by dsimp only; omega) (.int .i64 0)).setCell (p := ⟨w.heap.size + 1 + 1 + 1 + 1 + 1, 0, none⟩) (by dsimp only; omega) (.iface 92 (.pointer (some (e 2))))).drew).trans (belowK_b (n₀ := w.heap.size) (w := w) (Nat.le_refl _) _ D _ _ (by omega) (HKD.out _) rfl rfl)) []⟩
      case stop =>
        rintro D pre W hD _ ⟨hB, k, b4, b5, hh⟩ hK
        have hD2 : w.heap.size + 7 ≤ D := by omega
        have hA := HA.out
        rw [hh] at hA
        cases hA
        have HB := Lib.hid hB
        clear hB hs0 hB0 hh bp hF0
        gi_wp2
        refine ⟨by simp, .inl ⟨_, _, rfl, run_takeDeferred hK, ?_⟩⟩
        have q0 := cell_putD b4 (D := D) (by omega)
        have q1 := cell_putD b5 (D := D) (by omega)
        refine ⟨.tuple #[.int .i64 (k : Int), .nilIface], by simp [results, Tryd.results30, go_sem, q0, q1], rfl, Keeps.of_below (HB.out.trans (belowK_b (n₀ := w.heap.size) (w := w) (Nat.le_refl _) _ D _ _ (by omega) hK rfl rfl)) []⟩
end Go.Proofs.YtbcppmcjbcnlbaaDoor
