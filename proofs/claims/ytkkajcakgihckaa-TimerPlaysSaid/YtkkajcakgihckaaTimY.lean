/- The document's comparison of two lists of numbers; a law's call. -/
import Derived.Test.YtkkajcakgihckaaTimX
import Derived.Test.YtkkajcakgihckaaOpsI
import Derived.Deep.RegionHeld3
namespace Go.Proofs.Ytkkajcakgihckaa
open Go.RowKit Go.Shelf
attribute [local go_sem] Oper.semAt_some
attribute [local go_sem ↓] Go.wp_at_zero Go.wp_at_succ

/-- A slice of these numbers. -/
def IntsAt (w : World) (v : Value) (ys : List Int) : Prop :=
  ∃ (a : Option Addr) (c : Nat), v = .slice a ys.length c ∧ (0 < ys.length → ∃ g off, a = some ⟨g, off, none⟩ ∧ g < w.heap.size ∧ ∀ i (h : i < ys.length), w.cell? ⟨g, off + i, none⟩ = some (.int .i64 ys[i]))
theorem NewI.ints {w : World} {base : Nat} {v : Value} {ys : List Int} (h : NewI w base v ys) : IntsAt w v ys := by
  rcases h.2 with ⟨rfl, h0⟩ | ⟨g, cap, cur, rfl, hb, hg, hn, _, hs, ht⟩
  · exact ⟨none, 0, by rw [h0], fun h1 => by omega⟩
  · refine ⟨_, cap, rfl, fun _ => ⟨g, 0, rfl, Blk.lt (t := 3) (cs := cur) hg, fun i hi => ?_⟩⟩
    rw [Nat.zero_add, Blk.cell (t := 3) (cs := cur) hg]
    have h1 : (ys.map (Value.int .i64))[i]? = some (.int .i64 ys[i]) := by rw [List.getElem?_map, List.getElem?_eq_getElem hi]; rfl
    rw [← ht, List.getElem?_take, if_pos (by omega)] at h1
    simpa using h1
theorem IntsAt.keeps {w w' : World} {v : Value} {ys : List Int} (h : IntsAt w v ys) (hk : Keeps [] w w') : IntsAt w' v ys := by
  obtain ⟨a, c, rfl, h2⟩ := h
  refine ⟨a, c, rfl, fun h0 => ?_⟩
  obtain ⟨g, off, ha, hg, hc⟩ := h2 h0
  exact ⟨g, off, ha, Nat.lt_of_lt_of_le hg hk.size, fun i hi => (hk.cell (p := ⟨g, off + i, none⟩) hg (by simp)).trans (hc i hi)⟩
/-- .. behind a call that turns the timer's blocks alone, the slice being made behind the timer. -/
theorem NewI.far {w w' : World} {F : List Nat} {base : Nat} {v : Value} {ys : List Int} (h : NewI w base v ys) (hk : Keeps F w w') (hF : ∀ y ∈ F, y < base) : NewI w' base v ys := h.keeps hk hF

theorem take_snoc {α : Type} {xs : List α} {k : Nat} {x : α} (h : xs[k]? = some x) : xs.take (k + 1) = xs.take k ++ [x] := by
  obtain ⟨hk, rfl⟩ := List.getElem?_eq_some_iff.1 h
  exact List.take_succ_eq_append_getElem hk

set_option maxRecDepth 100000 in
set_option maxHeartbeats 1000000 in
theorem rInts_any (u v : Value) (xs ys : List Int) (R : Bool) (hR : R = true ↔ xs = ys) (hsm : xs.length ≤ 1000000) (w : World) (h1 : IntsAt w u xs) (h2 : IntsAt w v ys) :
    Calls Try.prog 17 #[u, v] w fun e w' => e = .returned (.bool R) ∧ Keeps [] w w' := by
  obtain ⟨a1, c1, rfl, h1⟩ := h1
  obtain ⟨a2, c2, rfl, h2⟩ := h2
  obtain ⟨n, hn⟩ : ∃ n, xs.length = n := ⟨_, rfl⟩
  obtain ⟨m, hm⟩ : ∃ m, ys.length = m := ⟨_, rfl⟩
  have H1 := Lib.hid h1
  have H2 := Lib.hid h2
  have HN := Lib.hid hn
  have HN2 := Lib.hid hm
  have HR := Lib.hid hR
  rw [hn] at hsm
  rw [hn, hm]
  by_cases hlen : n = m
  · subst hlen
    have hne : ((n : Int) != (n : Int)) = false := by simp
    clear h1 h2 hn hm hR
    go_enter Try.func17, Try.ntmps17
    go_wp2
    go_loopw [5] (fun i wr => ∃ k : Nat, k ≤ n ∧ i = .int .i64 k ∧ Hid (xs.take k = ys.take k) ∧ Hid (Keeps [] w wr)) (fun i _ => n - (intOf i).toNat)
    case atStart => exact ⟨0, Nat.zero_le _, rfl, Lib.hid rfl, Lib.hid (Keeps.refl [] w)⟩
    case round =>
      obtain ⟨k, hk, rfl, HE, HK⟩ := hrel
      by_cases hlt : k < n
      · have hk1 : k < xs.length := by rw [HN.out]; exact hlt
        have hk2 : k < ys.length := by rw [HN2.out]; exact hlt
        obtain ⟨g1, o1, rfl, hb1, hat1⟩ := H1.out (by omega)
        obtain ⟨g2, o2, rfl, hb2, hat2⟩ := H2.out (by omega)
        obtain ⟨x, hx⟩ : ∃ x, xs[k] = x := ⟨_, rfl⟩
        obtain ⟨y, hy⟩ : ∃ y, ys[k] = y := ⟨_, rfl⟩
        have q1 := hat1 k hk1
        have q2 := hat2 k hk2
        rw [hx, ← HK.out.cell hb1 (by simp)] at q1
        rw [hy, ← HK.out.cell hb2 (by simp)] at q2
        have i1 : (0 : Int) ≤ (k : Int) := by omega
        have i2 : (k : Int) < (n : Int) := by omega
        have HX : Hid (xs[k]? = some x) := Lib.hid (by rw [List.getElem?_eq_getElem hk1, hx])
        have HY : Hid (ys[k]? = some y) := Lib.hid (by rw [List.getElem?_eq_getElem hk2, hy])
        clear hx hy hat1 hat2 hb1 hb2 hk1 hk2
        by_cases hxy : x = y
        · subst hxy
          have hb : (x != x) = false := by simp
          have HE2 : Hid (xs.take (k + 1) = ys.take (k + 1)) := Lib.hid (by rw [take_snoc HX.out, take_snoc HY.out, HE.out])
          go_wp2
          go_quiet (fail)
          go_wp2
          go_roundw
          case rel => exact ⟨k + 1, by omega, by go_num, HE2, Lib.hid (HK.out.drewN _)⟩
          case measure => simp [intOf]; omega
        · have hb : (x != y) = true := by simpa using hxy
          obtain rfl : R = false := by
            cases hr : R with
            | false => rfl
            | true =>
              have e := HR.out.1 hr
              subst e
              have h1 := HX.out
              rw [HY.out] at h1
              injection h1 with h1
              exact absurd h1.symm hxy
          have HXY := Lib.hid hxy
          clear hxy
          go_wp2
          go_quiet (fail)
          go_wp2
          go_ret
          exact ⟨rfl, HK.out.drewN _⟩
      · obtain rfl : k = n := by omega
        obtain rfl : R = true := HR.out.2 (by
          have := HE.out
          rw [List.take_of_length_le (by rw [HN.out]; exact Nat.le_refl _), List.take_of_length_le (by rw [HN2.out]; exact Nat.le_refl _)] at this
          exact this)
        go_wp2
        go_ret
        exact ⟨rfl, HK.out⟩
  · have hne : ((n : Int) != (m : Int)) = true := by simp; omega
    obtain rfl : R = false := by
      cases hr : R with
      | false => rfl
      | true => exact absurd (by rw [← hn, ← hm, hR.1 hr]) hlen
    clear hlen h1 h2 hR hn hm
    go_enter Try.func17, Try.ntmps17
    go_wp2
    go_ret
    exact ⟨rfl, Keeps.refl _ _⟩

/-- A law's call: its error, its yes or no, its number, what is due; and what is behind it. -/
def doL (L : List Ke) (x : Op1) : (Int × Bool × Int × List Int) × List Ke :=
  if x.kind = 0 then (((setA L x.a x.b).1, false, 0, []), (setA L x.a x.b).2)
  else if x.kind = 1 then ((0, (findL L x.a).isSome, 0, []), cancelL L x.a)
  else if x.kind = 2 then ((0, false, 0, keysL (dueL L x.b)), leftL L x.b)
  else if x.kind = 3 then ((0, (findL L x.a).isSome, (findL L x.a).getD 0, []), L)
  else ((0, false, 0, []), L)
def saidV (r : Int × Bool × Int × List Int) : Value := .agg #[.int .i64 r.1, .bool r.2.1, .int .i64 r.2.2.1]

/-- What do leaves. -/
def DoPost (F : List Nat) (t n : Nat) (r : Int × Bool × Int × List Int) (L' : List Ke) (w : World) (e : Ending) (w' : World) : Prop :=
  (∃ v, e = .returned (.tuple #[saidV r, v]) ∧ NewI w' w.heap.size v r.2.2.2) ∧ ∃ F', TiAt w' F' t (n + 1) L' ∧ (∀ y ∈ F', y < w'.heap.size) ∧ (∀ y ∈ F', y ∈ F ∨ w.heap.size ≤ y) ∧ Keeps F w w'

/-- The blocks that do makes. -/
structure DoB (w W0 : World) (k a b e : Int) (c : Bool) (d : Int) : Prop where
  x : Blk W0 w.heap.size 36 #[.int .i64 k, .int .i64 a, .int .i64 b]
  r : Blk W0 (w.heap.size + 1) 31 #[.int .i64 0, .bool false, .int .i64 0]
  s : Blk W0 (w.heap.size + 1 + 1) 31 #[.int .i64 e, .bool c, .int .i64 d]
  sz : w.heap.size + 3 ≤ W0.heap.size
theorem DoB.keeps {w W0 w1 : World} {F : List Nat} {k a b e : Int} {c : Bool} {d : Int} (h : DoB w W0 k a b e c d) (hk : Keeps F W0 w1) (hF : ∀ y ∈ F, y < w.heap.size) : DoB w w1 k a b e c d :=
  ⟨h.x.keeps hk (fun hm => by have := hF _ hm; omega), h.r.keeps hk (fun hm => by have := hF _ hm; omega), h.s.keeps hk (fun hm => by have := hF _ hm; omega), Nat.le_trans h.sz hk.size⟩

/-- The end of do: what was said stands in the result's cells. -/
theorem do_end {F F1 : List Nat} {t n : Nat} {L' : List Ke} {w W0 w1 w2 : World} {r : Int × Bool × Int × List Int} {v : Value} (K0 : Keeps [] w W0) (hz : w.heap.size + 3 ≤ W0.heap.size) (h : TiAt w1 F1 t n L') (hF : ∀ y ∈ F, y < w.heap.size) (hF1 : ∀ y ∈ F1, y ∈ F ∨ W0.heap.size ≤ y) (k1 : Keeps F W0 w1) (k2 : Keeps [w.heap.size + 1, w.heap.size + 1 + 1] w1 w2) (hv : NewI w2 w.heap.size v r.2.2.2) (n' : Nat) (hn : n ≤ n') :
    (∃ v', Ending.returned (.tuple #[saidV r, v]) = .returned (.tuple #[saidV r, v']) ∧ NewI w2 w.heap.size v' r.2.2.2) ∧ ∃ F', TiAt w2 F' t n' L' ∧ (∀ y ∈ F', y < w2.heap.size) ∧ (∀ y ∈ F', y ∈ F ∨ w.heap.size ≤ y) ∧ Keeps F w w2 := by
  have h2 : TiAt w2 F1 t n' L' := (h.keeps k2 (fun y hy hm => by
    simp only [List.mem_cons, List.not_mem_nil, or_false] at hm
    rcases hF1 y hy with h3 | h3
    · have := hF y h3; omega
    · omega)).mono hn
  obtain ⟨F', h3, h4, h5, _⟩ := h2.trim
  refine ⟨⟨v, rfl, hv⟩, F', h3, h5, fun y hy => ?_, ?_⟩
  · rcases hF1 y (h4 y hy) with h6 | h6
    · exact .inl h6
    · exact .inr (by omega)
  · refine ((K0.mono (S' := F) (by simp)).trans k1).trans' k2 (fun y hy => ?_)
    simp only [List.mem_cons, List.not_mem_nil, or_false] at hy
    right; omega

/-- The result's cells written. -/
theorem fin_cells {base : World} {q : Nat} {e d : Int} {c : Bool} {u v x : Value} (h : Blk base q 31 #[u, v, x]) :
    Blk (((base.setCell ⟨q, 0, none⟩ (.int .i64 e)).setCell ⟨q, 1, none⟩ (.bool c)).setCell ⟨q, 2, none⟩ (.int .i64 d)) q 31 #[.int .i64 e, .bool c, .int .i64 d] ∧ Keeps [q] base (((base.setCell ⟨q, 0, none⟩ (.int .i64 e)).setCell ⟨q, 1, none⟩ (.bool c)).setCell ⟨q, 2, none⟩ (.int .i64 d)) :=
  ⟨((h.set_ 0 (.int .i64 e)).set_ 1 (.bool c)).set_ 2 (.int .i64 d), (((Keeps.refl [q] base).setCell (p := ⟨q, 0, none⟩) (.inl (by simp)) _).setCell (p := ⟨q, 1, none⟩) (.inl (by simp)) _).setCell (p := ⟨q, 2, none⟩) (.inl (by simp)) _⟩

theorem due_cells {w w1 : World} {k a b e d : Int} {c : Bool} (h : DoB w w1 k a b e c d) : w1.cell? ⟨w.heap.size, 2, none⟩ = some (.int .i64 b) ∧ w1.cell? ⟨w.heap.size + 1 + 1, 0, none⟩ = some (.int .i64 e) ∧ w1.cell? ⟨w.heap.size + 1 + 1, 1, none⟩ = some (.bool c) ∧ w1.cell? ⟨w.heap.size + 1 + 1, 2, none⟩ = some (.int .i64 d) :=
  ⟨h.x.cell 2, h.s.cell 0, h.s.cell 1, h.s.cell 2⟩
theorem due_cells2 {w w1 : World} {k a b e d : Int} {c : Bool} (h : DoB w w1 k a b e c d) {u v x : Value} : (((w1.setCell ⟨w.heap.size + 1, 0, none⟩ u).setCell ⟨w.heap.size + 1, 1, none⟩ v).setCell ⟨w.heap.size + 1, 2, none⟩ x).cell? ⟨w.heap.size, 2, none⟩ = some (.int .i64 b) ∧
    (((w1.setCell ⟨w.heap.size + 1, 0, none⟩ u).setCell ⟨w.heap.size + 1, 1, none⟩ v).setCell ⟨w.heap.size + 1, 2, none⟩ x).cell? ⟨w.heap.size + 1 + 1, 0, none⟩ = some (.int .i64 e) ∧ (((w1.setCell ⟨w.heap.size + 1, 0, none⟩ u).setCell ⟨w.heap.size + 1, 1, none⟩ v).setCell ⟨w.heap.size + 1, 2, none⟩ x).cell? ⟨w.heap.size + 1 + 1, 1, none⟩ = some (.bool c) ∧
    (((w1.setCell ⟨w.heap.size + 1, 0, none⟩ u).setCell ⟨w.heap.size + 1, 1, none⟩ v).setCell ⟨w.heap.size + 1, 2, none⟩ x).cell? ⟨w.heap.size + 1 + 1, 2, none⟩ = some (.int .i64 d) := by
  have hx := (((h.x.far (p := ⟨w.heap.size + 1, 0, none⟩) (by dsimp only; omega) u).far (p := ⟨w.heap.size + 1, 1, none⟩) (by dsimp only; omega) v).far (p := ⟨w.heap.size + 1, 2, none⟩) (by dsimp only; omega) x)
  have hs := (((h.s.far (p := ⟨w.heap.size + 1, 0, none⟩) (by dsimp only; omega) u).far (p := ⟨w.heap.size + 1, 1, none⟩) (by dsimp only; omega) v).far (p := ⟨w.heap.size + 1, 2, none⟩) (by dsimp only; omega) x)
  exact ⟨hx.cell 2, hs.cell 0, hs.cell 1, hs.cell 2⟩

set_option maxRecDepth 100000 in
set_option maxHeartbeats 2000000 in
theorem do_any (F : List Nat) (t n : Nat) (L : List Ke) (x : Op1) (hx : x.wf) (hn : n < 900) (w : World) (h : TiAt w F t n L) (hF : ∀ y ∈ F, y < w.heap.size) :
    Calls Try.prog 13 #[.pointer (some ⟨t, 0, none⟩), x.val] w fun e w' => DoPost F t n (doL L x).1 (doL L x).2 w e w' := by
  obtain ⟨k, a, b⟩ := x
  have HX := Lib.hid hx
  have HF := Lib.hid hF
  obtain ⟨W0, hW0⟩ : ∃ W0, (((w.alloc (.cells #[.int .i64 k, .int .i64 a, .int .i64 b] 36)).alloc (.cells #[.int .i64 0, .bool false, .int .i64 0] 31)).alloc (.cells #[.int .i64 0, .bool false, .int .i64 0] 31)) = W0 := ⟨_, rfl⟩
  have HW0 := Lib.hid hW0
  have K0 : Hid (Keeps [] w W0) := Lib.hid (by rw [← hW0]; exact (((Keeps.refl [] w).alloc _).alloc _).alloc _)
  have HB : Hid (DoB w W0 k a b 0 false 0) := Lib.hid (by
    rw [← hW0]
    exact ⟨((Blk.new w _ _).alloc _).alloc _, (Blk.new2 _ _ _ _ (by simp)).alloc _, Blk.new2 _ _ _ _ (by simp), by simp⟩)
  have HH : Hid (TiAt W0 F t n L) := Lib.hid (h.keeps K0.out (by simp))
  clear hx h hW0 hF
  unfold Op1.val
  have kbs : (∀ y ∈ F, y ∈ F ∨ W0.heap.size ≤ y) := fun _ hy => .inl hy
  have KBS := Lib.hid kbs
  clear kbs
  by_cases h0 : k = 0
  · subst h0
    have hS := tmset_any F t n L a b hn W0 HH.out
    have hd : doL L ⟨0, a, b⟩ = (((setA L a b).1, false, 0, []), (setA L a b).2) := by simp [doL]
    obtain ⟨er, her⟩ : ∃ er, (setA L a b).1 = er := ⟨_, rfl⟩
    rw [hd, her]
    clear hd
    go_enter Try.func13, Try.ntmps13
    go_wp2_with (fail)
    rw [HW0.out]
    refine hS.mono ?_
    rintro e w1 ⟨rfl, F1, h1, s1, k1⟩
    have HB1 := Lib.hid (HB.out.keeps k1 HF.out)
    rw [her]
    have q0 := HB1.out.s.cell 0
    have q1 := HB1.out.s.cell 1
    have q2 := HB1.out.s.cell 2
    have r0 := HB1.out.r.cell 0
    have r1 := HB1.out.r.cell 1
    have r2 := HB1.out.r.cell 2
    have g0 := HB1.out.s.frozen 0
    have g1 := HB1.out.s.frozen 1
    have g2 := HB1.out.s.frozen 2
    have p0 := HB1.out.r.frozen 0
    have p1 := HB1.out.r.frozen 1
    have p2 := HB1.out.r.frozen 2
    simp at q0 q1 q2 r0 r1 r2
    have hne : w.heap.size + 1 ≠ w.heap.size + 1 + 1 := by omega
    have hne2 : w.heap.size + 1 + 1 ≠ w.heap.size + 1 := by omega
    have H1 := Lib.hid h1
    have S1 := Lib.hid s1
    have K1 := Lib.hid k1
    clear hS h1 s1 k1
    go_wp2
    obtain ⟨Wb, hWb⟩ : ∃ Wb, (w1.setCell ⟨w.heap.size + 1 + 1, 0, none⟩ (.int .i64 er)) = Wb := ⟨_, rfl⟩
    rw [hWb]
    have hb : Blk Wb (w.heap.size + 1) 31 #[.int .i64 0, .bool false, .int .i64 0] := by rw [← hWb]; exact HB1.out.r.far (p := ⟨w.heap.size + 1 + 1, 0, none⟩) hne _
    have hkb : Keeps [w.heap.size + 1, w.heap.size + 1 + 1] w1 Wb := by rw [← hWb]; exact (Keeps.refl _ _).setCell (p := ⟨w.heap.size + 1 + 1, 0, none⟩) (.inl (by simp)) _
    obtain ⟨f1, f2⟩ := fin_cells (e := er) (c := false) (d := 0) hb
    have z0 := f1.cell 0
    have z1 := f1.cell 1
    have z2 := f1.cell 2
    refine bodyPost_ret (v := .tuple #[saidV (er, false, 0, []), .slice none 0 0]) (by simp [results, Try.results13, go_sem, saidV, z0, z1, z2]) rfl ?_
    exact do_end (r := (er, false, 0, [])) (v := .slice none 0 0) K0.out HB.out.sz H1.out HF.out S1.out K1.out (hkb.trans (f2.mono (by simp))) (show NewI _ _ _ [] from World.ownsRow_nil _ _ _ _) (n + 1) (by omega)
  · have c0 : (k == 0) = false := by simpa using h0
    by_cases h1 : k = 1
    · subst h1
      obtain ⟨is, his⟩ : ∃ is, (findL L a).isSome = is := ⟨_, rfl⟩
      have hS := tmcancel_any F t n L a is his HX.out.1 W0 HH.out
      have hd : doL L ⟨1, a, b⟩ = ((0, is, 0, []), cancelL L a) := by simp [doL, his]
      rw [hd]
      clear hd his
      go_enter Try.func13, Try.ntmps13
      go_wp2_with (fail)
      rw [HW0.out]
      refine hS.mono ?_
      rintro e w1 ⟨rfl, h1, k1⟩
      have HB1 := Lib.hid (HB.out.keeps k1 HF.out)
      have q0 := HB1.out.s.cell 0
      have q1 := HB1.out.s.cell 1
      have q2 := HB1.out.s.cell 2
      have r0 := HB1.out.r.cell 0
      have r1 := HB1.out.r.cell 1
      have r2 := HB1.out.r.cell 2
      have g0 := HB1.out.s.frozen 0
      have g1 := HB1.out.s.frozen 1
      have g2 := HB1.out.s.frozen 2
      have p0 := HB1.out.r.frozen 0
      have p1 := HB1.out.r.frozen 1
      have p2 := HB1.out.r.frozen 2
      simp at q0 q1 q2 r0 r1 r2
      have hne : w.heap.size + 1 ≠ w.heap.size + 1 + 1 := by omega
      have hne2 : w.heap.size + 1 + 1 ≠ w.heap.size + 1 := by omega
      have H1 := Lib.hid h1
      have K1 := Lib.hid k1
      clear hS h1 k1
      go_wp2
      obtain ⟨Wb, hWb⟩ : ∃ Wb, (w1.setCell ⟨w.heap.size + 1 + 1, 1, none⟩ (.bool is)) = Wb := ⟨_, rfl⟩
      rw [hWb]
      have hb : Blk Wb (w.heap.size + 1) 31 #[.int .i64 0, .bool false, .int .i64 0] := by rw [← hWb]; exact HB1.out.r.far (p := ⟨w.heap.size + 1 + 1, 1, none⟩) hne _
      have hkb : Keeps [w.heap.size + 1, w.heap.size + 1 + 1] w1 Wb := by rw [← hWb]; exact (Keeps.refl _ _).setCell (p := ⟨w.heap.size + 1 + 1, 1, none⟩) (.inl (by simp)) _
      obtain ⟨f1, f2⟩ := fin_cells (e := 0) (c := is) (d := 0) hb
      have z0 := f1.cell 0
      have z1 := f1.cell 1
      have z2 := f1.cell 2
      refine bodyPost_ret (v := .tuple #[saidV (0, is, 0, []), .slice none 0 0]) (by simp [results, Try.results13, go_sem, saidV, z0, z1, z2]) rfl ?_
      exact do_end (r := (0, is, 0, [])) (v := .slice none 0 0) K0.out HB.out.sz H1.out HF.out KBS.out K1.out (hkb.trans (f2.mono (by simp))) (show NewI _ _ _ [] from World.ownsRow_nil _ _ _ _) (n + 1) (by omega)
    · have c1 : (k == 1) = false := by simpa using h1
      by_cases h2 : k = 2
      · subst h2
        obtain ⟨ys, hys⟩ : ∃ ys, keysL (dueL L b) = ys := ⟨_, rfl⟩
        have hS := fun (W : World) hW => tmDue_any F t n L b ys hys W hW
        have HS := Lib.hid hS
        have hd : doL L ⟨2, a, b⟩ = ((0, false, 0, ys), leftL L b) := by simp [doL, hys]
        rw [hd]
        clear hd hys hS
        have HB1 := HB
        have x2 := HB.out.x.cell 2
        have s0 := HB.out.s.cell 0
        have s1 := HB.out.s.cell 1
        have s2 := HB.out.s.cell 2
        simp at x2 s0 s1 s2
        go_enter Try.func13, Try.ntmps13
        go_wp2_with (fail)
        rw [HW0.out]
        have hne : w.heap.size + 1 ≠ w.heap.size + 1 + 1 := by omega
        have hne3 : w.heap.size + 1 ≠ w.heap.size := by omega
        have hC := HS.out W0.drew (HH.out.keeps ((Keeps.refl [] W0).drew) (by simp))
        refine wp_region_held_drew (S := (fun w' : World => w'.cell? ⟨w.heap.size, 2, none⟩ = some (.int .i64 b) ∧ w'.cell? ⟨w.heap.size + 1 + 1, 0, none⟩ = some (.int .i64 0) ∧ w'.cell? ⟨w.heap.size + 1 + 1, 1, none⟩ = some (.bool false) ∧ w'.cell? ⟨w.heap.size + 1 + 1, 2, none⟩ = some (.int .i64 0))) (by kernel_rfl) ?_ (fun hHeld => ?_)
        · (try dsimp only); (first | exact ⟨x2, s0, s1, s2⟩ | exact due_cells HB2.out | exact hHeld | exact due_cells2 HB2.out)
        refine wpAnyH_take (i := 0) (oi := { dst := some 28, op := Op.load 31 (Operand.tmp 6), type := 31, pos := "law.go:50", after := #[], guard := none }) (v := ?_) rfl (by kernel_rfl) (by kernel_rfl) (by kernel_rfl) (fun _ _ _ h => h) (Or.inl ⟨by rfl, ?_⟩) (by assumption) ?_
        rotate_left; · ((intro w hSw; (try dsimp only at hSw); go_simp); try with_reducible rfl)
        try simp only [Act.put, List.setIfInBounds_toArray, List.set_cons_zero, List.set_cons_succ]
        refine wpAnyH_take (i := 1) (oi := { dst := some 29, op := Op.move (Operand.tmp 0), type := 25, pos := "law.go:50", after := #[], guard := none }) (v := ?_) rfl (by kernel_rfl) (by kernel_rfl) (by kernel_rfl) (fun _ _ _ h => h) (Or.inl ⟨by rfl, ?_⟩) (by assumption) ?_
        rotate_left; · ((intro w hSw; (try dsimp only at hSw); go_simp); try with_reducible rfl)
        try simp only [Act.put, List.setIfInBounds_toArray, List.set_cons_zero, List.set_cons_succ]
        refine wpAnyH_take (i := 2) (oi := { dst := some 30, op := Op.fieldAddr 36 (Operand.tmp 3) 2, type := 0, pos := "law.go:50", after := #[], guard := none }) (v := ?_) rfl (by kernel_rfl) (by kernel_rfl) (by kernel_rfl) (fun _ _ _ h => h) (Or.inl ⟨by rfl, ?_⟩) (by assumption) ?_
        rotate_left; · ((intro w hSw; (try dsimp only at hSw); go_simp); try with_reducible rfl)
        try simp only [Act.put, List.setIfInBounds_toArray, List.set_cons_zero, List.set_cons_succ]
        refine wpAnyH_take (i := 3) (oi := { dst := some 31, op := Op.load 3 (Operand.tmp 30), type := 3, pos := "law.go:50", after := #[{ on := 2, ground := Ground.data }], guard := none }) (v := ?_) rfl (by kernel_rfl) (by kernel_rfl) (by kernel_rfl) (fun _ _ _ h => h) (Or.inl ⟨by rfl, ?_⟩) (by assumption) ?_
        rotate_left; · ((intro w hSw; (try dsimp only at hSw); go_simp); try with_reducible rfl)
        try simp only [Act.put, List.setIfInBounds_toArray, List.set_cons_zero, List.set_cons_succ]
        refine wpAnyH_ready (rs := [4]) (by kernel_rfl) (by simp) ?_
        refine AllReadyH.cons rfl (fun K hK => ?_) ?_
        · go_simp
          (refine hC.mono ?_; rintro e w1 ⟨⟨v, rfl, hv⟩, h1, k1⟩; have k1' : Keeps F W0 w1 := ⟨k1.os, k1.tape, k1.output, k1.size, k1.block⟩; have HB2 := Lib.hid (HB.out.keeps k1' HF.out); have r0 := HB2.out.r.cell 0; have r1 := HB2.out.r.cell 1; have r2 := HB2.out.r.cell 2; have p0 := HB2.out.r.frozen 0; have p1 := HB2.out.r.frozen 1; have p2 := HB2.out.r.frozen 2; simp at r0 r1 r2; have HV := Lib.hid hv; have H1 := Lib.hid h1; have K1 := Lib.hid k1'; clear hv h1 k1 k1')
          refine hK.out _ _ ?_ (fun hHeld => ?_)
          · (try dsimp only); (first | exact ⟨x2, s0, s1, s2⟩ | exact due_cells HB2.out | exact hHeld | exact due_cells2 HB2.out)
          clear hK K
          try simp only [Act.put, List.setIfInBounds_toArray, List.set_cons_zero, List.set_cons_succ]
          refine wpAnyH_ready (rs := [5]) (by kernel_rfl) (by simp) ?_
          refine AllReadyH.cons rfl (fun K hK => ?_) ?_
          · go_simp
            refine hK.out _ _ ?_ (fun hHeld => ?_)
            · (try dsimp only); (first | exact ⟨x2, s0, s1, s2⟩ | exact due_cells HB2.out | exact hHeld | exact due_cells2 HB2.out)
            clear hK K
            try simp only [Act.put, List.setIfInBounds_toArray, List.set_cons_zero, List.set_cons_succ]
            refine wpAnyH_take (i := 6) (oi := { dst := some 5, op := Op.assign (Operand.tmp 32), type := 32, pos := "law.go:50", after := #[{ on := 4, ground := Ground.data }, { on := 5, ground := Ground.chain }, { on := 0, ground := Ground.phase }, { on := 1, ground := Ground.phase }, { on := 2, ground := Ground.phase }, { on := 3, ground := Ground.phase }, { on := 4, ground := Ground.phase }, { on := 5, ground := Ground.phase }], guard := none }) (v := ?_) rfl (by kernel_rfl) (by kernel_rfl) (by kernel_rfl) (fun _ _ _ h => h) (Or.inl ⟨by rfl, ?_⟩) (by assumption) ?_
            rotate_left; · ((intro w hSw; (try dsimp only at hSw); go_simp); try with_reducible rfl)
            try simp only [Act.put, List.setIfInBounds_toArray, List.set_cons_zero, List.set_cons_succ]
            refine wpAnyH_done (by kernel_rfl) ?_ _
            (go_wp2; obtain ⟨f1, f2⟩ := fin_cells (e := 0) (c := false) (d := 0) HB2.out.r; have z0 := f1.cell 0; have z1 := f1.cell 1; have z2 := f1.cell 2; refine bodyPost_ret (v := .tuple #[saidV (0, false, 0, ys), v]) (by simp [results, Try.results13, go_sem, saidV, z0, z1, z2]) rfl ?_; exact do_end (r := (0, false, 0, ys)) (v := v) K0.out HB.out.sz H1.out HF.out KBS.out K1.out (f2.mono (by simp)) ((NewI.keeps HV.out f2 (by have := HB.out.sz; simp only [World.drew]; simp; omega)).to (by have := HB.out.sz; simp only [World.drew]; omega)) (n + 1) (by omega))
          exact AllReadyH.nil
        exact AllReadyH.nil
      · have c2 : (k == 2) = false := by simpa using h2
        have k00 : Hid (Keeps F W0 W0) := Lib.hid (Keeps.refl _ _)
        by_cases h3 : k = 3
        · subst h3
          obtain ⟨o, ho⟩ : ∃ o, findL L a = o := ⟨_, rfl⟩
          have hS := tmfind_any F t n L a o ho HX.out.1 W0 HH.out
          have hd : doL L ⟨3, a, b⟩ = ((0, o.isSome, o.getD 0, []), L) := by simp [doL, ho]
          obtain ⟨is, his⟩ : ∃ is, o.isSome = is := ⟨_, rfl⟩
          obtain ⟨nn, hnn⟩ : ∃ nn, o.getD 0 = nn := ⟨_, rfl⟩
          rw [hd, his, hnn]
          rw [his, hnn] at hS
          have HB1 := HB
          have q0 := HB1.out.s.cell 0
          have q1 := HB1.out.s.cell 1
          have q2 := HB1.out.s.cell 2
          have r0 := HB1.out.r.cell 0
          have r1 := HB1.out.r.cell 1
          have r2 := HB1.out.r.cell 2
          have g0 := HB1.out.s.frozen 0
          have g1 := HB1.out.s.frozen 1
          have g2 := HB1.out.s.frozen 2
          have p0 := HB1.out.r.frozen 0
          have p1 := HB1.out.r.frozen 1
          have p2 := HB1.out.r.frozen 2
          simp at q0 q1 q2 r0 r1 r2
          have hne : w.heap.size + 1 ≠ w.heap.size + 1 + 1 := by omega
          have hne2 : w.heap.size + 1 + 1 ≠ w.heap.size + 1 := by omega
          clear hd his hnn ho
          go_enter Try.func13, Try.ntmps13
          go_wp2_with (fail)
          rw [HW0.out]
          refine hS.mono ?_
          rintro e w1 ⟨rfl, rfl⟩
          clear hS
          go_wp2
          obtain ⟨Wb, hWb⟩ : ∃ Wb, ((W0.setCell ⟨w.heap.size + 1 + 1, 2, none⟩ (.int .i64 nn)).setCell ⟨w.heap.size + 1 + 1, 1, none⟩ (.bool is)) = Wb := ⟨_, rfl⟩
          rw [hWb]
          have hb : Blk Wb (w.heap.size + 1) 31 #[.int .i64 0, .bool false, .int .i64 0] := by rw [← hWb]; exact (HB1.out.r.far (p := ⟨w.heap.size + 1 + 1, 2, none⟩) hne _).far (p := ⟨w.heap.size + 1 + 1, 1, none⟩) hne _
          have hkb : Keeps [w.heap.size + 1, w.heap.size + 1 + 1] W0 Wb := by rw [← hWb]; exact ((Keeps.refl _ _).setCell (p := ⟨w.heap.size + 1 + 1, 2, none⟩) (.inl (by simp)) _).setCell (p := ⟨w.heap.size + 1 + 1, 1, none⟩) (.inl (by simp)) _
          obtain ⟨f1, f2⟩ := fin_cells (e := 0) (c := is) (d := nn) hb
          have z0 := f1.cell 0
          have z1 := f1.cell 1
          have z2 := f1.cell 2
          refine bodyPost_ret (v := .tuple #[saidV (0, is, nn, []), .slice none 0 0]) (by simp [results, Try.results13, go_sem, saidV, z0, z1, z2]) rfl ?_
          exact do_end (r := (0, is, nn, [])) (v := .slice none 0 0) K0.out HB.out.sz HH.out HF.out KBS.out k00.out (hkb.trans (f2.mono (by simp))) (show NewI _ _ _ [] from World.ownsRow_nil _ _ _ _) (n + 1) (by omega)
        · have c3 : (k == 3) = false := by simpa using h3
          have hd : doL L ⟨k, a, b⟩ = ((0, false, 0, []), L) := by simp [doL, h0, h1, h2, h3]
          rw [hd]
          clear hd h0 h1 h2 h3
          have HB1 := HB
          go_enter Try.func13, Try.ntmps13
          go_wp2
          rw [HW0.out]
          have z0 := HB.out.r.cell 0
          have z1 := HB.out.r.cell 1
          have z2 := HB.out.r.cell 2
          refine bodyPost_ret (v := .tuple #[saidV (0, false, 0, []), .slice none 0 0]) (by simp [results, Try.results13, go_sem, saidV, z0, z1, z2]) rfl ?_
          exact do_end (r := (0, false, 0, [])) (v := .slice none 0 0) K0.out HB.out.sz HH.out HF.out KBS.out k00.out (Keeps.refl _ _) (show NewI _ _ _ [] from World.ownsRow_nil _ _ _ _) (n + 1) (by omega)
end Go.Proofs.Ytkkajcakgihckaa
