/- What the document says to a law's call. Printed by gen_timRO.py. -/
import Derived.Test.YtkkajcakgihckaaTimRC
namespace Go.Proofs.Ytkkajcakgihckaa
open Go.RowKit Go.Shelf
attribute [local go_sem] Oper.semAt_some
attribute [local go_sem ↓] Go.wp_at_zero Go.wp_at_succ

/-- What want leaves. -/
def WantPost (t g : Nat) (r : Int × Bool × Int × List Int) (L' : List Ke) (w : World) (e : Ending) (w' : World) : Prop :=
  (∃ v, e = .returned (.tuple #[saidV r, v]) ∧ NewI w' w.heap.size v r.2.2.2) ∧ ∃ u g', RtA w' t g' u L' ∧ (g' = g ∨ g' = t ∨ w.heap.size ≤ g') ∧ g' < w'.heap.size ∧ Keeps [t] w w'

theorem want_end {t g g1 : Nat} {u : Value} {L' : List Ke} {w W0 w1 w2 : World} {r : Int × Bool × Int × List Int} {v : Value} (K0 : Keeps [] w W0) (hz : w.heap.size + 3 ≤ W0.heap.size) (h : RtA w1 t g1 u L') (ht : t < w.heap.size) (hg1 : g1 = g ∨ g1 = t ∨ W0.heap.size ≤ g1) (hgl : g < w.heap.size) (hl : g1 < w1.heap.size) (k1 : Keeps [t] W0 w1) (k2 : Keeps [w.heap.size + 1, w.heap.size + 1 + 1] w1 w2) (hv : NewI w2 w.heap.size v r.2.2.2) :
    (∃ v', Ending.returned (.tuple #[saidV r, v]) = .returned (.tuple #[saidV r, v']) ∧ NewI w2 w.heap.size v' r.2.2.2) ∧ ∃ u g', RtA w2 t g' u L' ∧ (g' = g ∨ g' = t ∨ w.heap.size ≤ g') ∧ g' < w2.heap.size ∧ Keeps [t] w w2 := by
  have hgn : g1 ∉ [w.heap.size + 1, w.heap.size + 1 + 1] := fun hm => by
    simp only [List.mem_cons, List.not_mem_nil, or_false] at hm
    rcases hg1 with h1 | h1 | h1 <;> omega
  refine ⟨⟨v, rfl, hv⟩, u, g1, h.keeps k2 (fun hm => ?_) hgn, ?_, Nat.lt_of_lt_of_le hl k2.size, ?_⟩
  · simp only [List.mem_cons, List.not_mem_nil, or_false] at hm
    omega
  · rcases hg1 with h1 | h1 | h1
    · exact .inl h1
    · exact .inr (.inl h1)
    · exact .inr (.inr (by omega))
  · refine ((K0.mono (S' := [t]) (by simp)).trans k1).trans' k2 (fun y hy => ?_)
    simp only [List.mem_cons, List.not_mem_nil, or_false] at hy
    right; omega

set_option maxRecDepth 100000 in
set_option maxHeartbeats 2000000 in
theorem want_any (t g : Nat) (v : Value) (L : List Ke) (x : Op1) (hgood : TiGood L) (w : World) (h : RtA w t g v L) (hgl : g < w.heap.size) :
    Calls Try.prog 14 #[.pointer (some ⟨t, 0, none⟩), x.val] w fun e w' => WantPost t g (doL L x).1 (doL L x).2 w e w' := by
  obtain ⟨k, a, b⟩ := x
  have HG := Lib.hid hgood
  have HGL := Lib.hid hgl
  have htl := h.head.lt
  have HTL := Lib.hid htl
  obtain ⟨W0, hW0⟩ : ∃ W0, (((w.alloc (.cells #[.int .i64 k, .int .i64 a, .int .i64 b] 36)).alloc (.cells #[.int .i64 0, .bool false, .int .i64 0] 31)).alloc (.cells #[.int .i64 0, .bool false, .int .i64 0] 31)) = W0 := ⟨_, rfl⟩
  have HW0 := Lib.hid hW0
  have K0 : Hid (Keeps [] w W0) := Lib.hid (by rw [← hW0]; exact (((Keeps.refl [] w).alloc _).alloc _).alloc _)
  have HB : Hid (DoB w W0 k a b 0 false 0) := Lib.hid (by
    rw [← hW0]
    exact ⟨((Blk.new w _ _).alloc _).alloc _, (Blk.new2 _ _ _ _ (by simp)).alloc _, Blk.new2 _ _ _ _ (by simp), by simp⟩)
  have HH : Hid (RtA W0 t g v L) := Lib.hid (h.keeps K0.out (by simp) (by simp))
  have HG0 : Hid (g < W0.heap.size) := Lib.hid (Nat.lt_of_lt_of_le hgl K0.out.size)
  have HF : Hid (∀ y ∈ [t], y < w.heap.size) := Lib.hid (by simpa using htl)
  clear h hW0 hgl htl hgood
  unfold Op1.val
  by_cases h0 : k = 0
  · subst h0
    have hS := rTset_any t g v L a b HG.out W0 HH.out HG0.out
    have hd : doL L ⟨0, a, b⟩ = (((setA L a b).1, false, 0, []), (setA L a b).2) := by simp [doL]
    obtain ⟨er, her⟩ : ∃ er, (setA L a b).1 = er := ⟨_, rfl⟩
    rw [hd, her]
    clear hd
    go_enter Try.func14, Try.ntmps14
    go_wp2_with (fail)
    rw [HW0.out]
    refine hS.mono ?_
    rintro e w1 ⟨rfl, u1, gz, h1, s1, l1, k1⟩
    have HB1 := Lib.hid (HB.out.keeps k1 HF.out)
    rw [her]
    have q0 := HB1.out.s.cell 0
    have q1 := HB1.out.s.cell 1
    have q2 := HB1.out.s.cell 2
    have r0 := HB1.out.r.cell 0
    have r1 := HB1.out.r.cell 1
    have r2 := HB1.out.r.cell 2
    have g0 := HB1.out.s.frozen 0
    have g1 := HB1.out.s.frozen 1
    have g2 := HB1.out.s.frozen 2
    have p0 := HB1.out.r.frozen 0
    have p1 := HB1.out.r.frozen 1
    have p2 := HB1.out.r.frozen 2
    simp at q0 q1 q2 r0 r1 r2
    have hne : w.heap.size + 1 ≠ w.heap.size + 1 + 1 := by omega
    have hne2 : w.heap.size + 1 + 1 ≠ w.heap.size + 1 := by omega
    have H1 := Lib.hid h1
    have S1 := Lib.hid s1
    have K1 := Lib.hid k1
    have L1 := Lib.hid l1
    clear hS h1 s1 k1 l1
    go_wp2
    obtain ⟨Wb, hWb⟩ : ∃ Wb, (w1.setCell ⟨w.heap.size + 1 + 1, 0, none⟩ (.int .i64 er)) = Wb := ⟨_, rfl⟩
    rw [hWb]
    have hb : Blk Wb (w.heap.size + 1) 31 #[.int .i64 0, .bool false, .int .i64 0] := by rw [← hWb]; exact HB1.out.r.far (p := ⟨w.heap.size + 1 + 1, 0, none⟩) hne _
    have hkb : Keeps [w.heap.size + 1, w.heap.size + 1 + 1] w1 Wb := by rw [← hWb]; exact (Keeps.refl _ _).setCell (p := ⟨w.heap.size + 1 + 1, 0, none⟩) (.inl (by simp)) _
    obtain ⟨f1, f2⟩ := fin_cells (e := er) (c := false) (d := 0) hb
    have z0 := f1.cell 0
    have z1 := f1.cell 1
    have z2 := f1.cell 2
    refine bodyPost_ret (v := .tuple #[saidV (er, false, 0, []), .slice none 0 0]) (by simp [results, Try.results14, go_sem, saidV, z0, z1, z2]) rfl ?_
    exact want_end (r := (er, false, 0, [])) (v := .slice none 0 0) K0.out HB.out.sz H1.out HTL.out S1.out HGL.out L1.out K1.out (hkb.trans (f2.mono (by simp))) (show NewI _ _ _ [] from World.ownsRow_nil _ _ _ _)
  · have c0 : (k == 0) = false := by simpa using h0
    by_cases h1 : k = 1
    · subst h1
      obtain ⟨is, his⟩ : ∃ is, (findL L a).isSome = is := ⟨_, rfl⟩
      have hS := rTcancel_any t g v L a is (by rw [← his]; exact cancel_was HG.out.ok a) W0 HH.out
      have hd : doL L ⟨1, a, b⟩ = ((0, is, 0, []), cancelL L a) := by simp [doL, his]
      rw [hd]
      clear hd his
      go_enter Try.func14, Try.ntmps14
      go_wp2_with (fail)
      rw [HW0.out]
      refine hS.mono ?_
      rintro e w1 ⟨rfl, u1, gz, h1, s1, l1, k1⟩
      have HB1 := Lib.hid (HB.out.keeps k1 HF.out)
      have q0 := HB1.out.s.cell 0
      have q1 := HB1.out.s.cell 1
      have q2 := HB1.out.s.cell 2
      have r0 := HB1.out.r.cell 0
      have r1 := HB1.out.r.cell 1
      have r2 := HB1.out.r.cell 2
      have g0 := HB1.out.s.frozen 0
      have g1 := HB1.out.s.frozen 1
      have g2 := HB1.out.s.frozen 2
      have p0 := HB1.out.r.frozen 0
      have p1 := HB1.out.r.frozen 1
      have p2 := HB1.out.r.frozen 2
      simp at q0 q1 q2 r0 r1 r2
      have hne : w.heap.size + 1 ≠ w.heap.size + 1 + 1 := by omega
      have hne2 : w.heap.size + 1 + 1 ≠ w.heap.size + 1 := by omega
      have H1 := Lib.hid h1
      have S1 : Hid (gz = g ∨ gz = t ∨ W0.heap.size ≤ gz) := Lib.hid (.inr s1)
      have K1 := Lib.hid k1
      have L1 := Lib.hid l1
      clear hS h1 s1 k1 l1
      go_wp2
      obtain ⟨Wb, hWb⟩ : ∃ Wb, (w1.setCell ⟨w.heap.size + 1 + 1, 1, none⟩ (.bool is)) = Wb := ⟨_, rfl⟩
      rw [hWb]
      have hb : Blk Wb (w.heap.size + 1) 31 #[.int .i64 0, .bool false, .int .i64 0] := by rw [← hWb]; exact HB1.out.r.far (p := ⟨w.heap.size + 1 + 1, 1, none⟩) hne _
      have hkb : Keeps [w.heap.size + 1, w.heap.size + 1 + 1] w1 Wb := by rw [← hWb]; exact (Keeps.refl _ _).setCell (p := ⟨w.heap.size + 1 + 1, 1, none⟩) (.inl (by simp)) _
      obtain ⟨f1, f2⟩ := fin_cells (e := 0) (c := is) (d := 0) hb
      have z0 := f1.cell 0
      have z1 := f1.cell 1
      have z2 := f1.cell 2
      refine bodyPost_ret (v := .tuple #[saidV (0, is, 0, []), .slice none 0 0]) (by simp [results, Try.results14, go_sem, saidV, z0, z1, z2]) rfl ?_
      exact want_end (r := (0, is, 0, [])) (v := .slice none 0 0) K0.out HB.out.sz H1.out HTL.out S1.out HGL.out L1.out K1.out (hkb.trans (f2.mono (by simp))) (show NewI _ _ _ [] from World.ownsRow_nil _ _ _ _)
    · have c1 : (k == 1) = false := by simpa using h1
      by_cases h2 : k = 2
      · subst h2
        obtain ⟨ys, hys⟩ : ∃ ys, keysL (dueL L b) = ys := ⟨_, rfl⟩
        have hS := fun (W : World) hW hg => rTdue_any t g v L b ys hys W hW hg
        have HS := Lib.hid hS
        have hd : doL L ⟨2, a, b⟩ = ((0, false, 0, ys), leftL L b) := by simp [doL, hys]
        rw [hd]
        clear hd hys hS
        have HB1 := HB
        have x2 := HB.out.x.cell 2
        have s0 := HB.out.s.cell 0
        have s1 := HB.out.s.cell 1
        have s2 := HB.out.s.cell 2
        simp at x2 s0 s1 s2
        go_enter Try.func14, Try.ntmps14
        go_wp2_with (fail)
        rw [HW0.out]
        have hne : w.heap.size + 1 ≠ w.heap.size + 1 + 1 := by omega
        have hne3 : w.heap.size + 1 ≠ w.heap.size := by omega
        have hC := HS.out W0.drew (HH.out.keeps ((Keeps.refl [] W0).drew) (by simp) (by simp)) HG0.out
        refine wp_region_held_drew (S := (fun w' : World => w'.cell? ⟨w.heap.size, 2, none⟩ = some (.int .i64 b) ∧ w'.cell? ⟨w.heap.size + 1 + 1, 0, none⟩ = some (.int .i64 0) ∧ w'.cell? ⟨w.heap.size + 1 + 1, 1, none⟩ = some (.bool false) ∧ w'.cell? ⟨w.heap.size + 1 + 1, 2, none⟩ = some (.int .i64 0))) (by kernel_rfl) ?_ (fun hHeld => ?_)
        · (try dsimp only); (first | exact ⟨x2, s0, s1, s2⟩ | exact due_cells HB2.out | exact hHeld | exact due_cells2 HB2.out)
        refine wpAnyH_take (i := 0) (oi := { dst := some 28, op := Op.load 31 (Operand.tmp 6), type := 31, pos := "law.go:66", after := #[], guard := none }) (v := ?_) rfl (by kernel_rfl) (by kernel_rfl) (by kernel_rfl) (fun _ _ _ h => h) (Or.inl ⟨by rfl, ?_⟩) (by assumption) ?_
        rotate_left; · ((intro w hSw; (try dsimp only at hSw); go_simp); try with_reducible rfl)
        try simp only [Act.put, List.setIfInBounds_toArray, List.set_cons_zero, List.set_cons_succ]
        refine wpAnyH_take (i := 1) (oi := { dst := some 29, op := Op.move (Operand.tmp 0), type := 27, pos := "law.go:66", after := #[], guard := none }) (v := ?_) rfl (by kernel_rfl) (by kernel_rfl) (by kernel_rfl) (fun _ _ _ h => h) (Or.inl ⟨by rfl, ?_⟩) (by assumption) ?_
        rotate_left; · ((intro w hSw; (try dsimp only at hSw); go_simp); try with_reducible rfl)
        try simp only [Act.put, List.setIfInBounds_toArray, List.set_cons_zero, List.set_cons_succ]
        refine wpAnyH_take (i := 2) (oi := { dst := some 30, op := Op.fieldAddr 36 (Operand.tmp 3) 2, type := 0, pos := "law.go:66", after := #[], guard := none }) (v := ?_) rfl (by kernel_rfl) (by kernel_rfl) (by kernel_rfl) (fun _ _ _ h => h) (Or.inl ⟨by rfl, ?_⟩) (by assumption) ?_
        rotate_left; · ((intro w hSw; (try dsimp only at hSw); go_simp); try with_reducible rfl)
        try simp only [Act.put, List.setIfInBounds_toArray, List.set_cons_zero, List.set_cons_succ]
        refine wpAnyH_take (i := 3) (oi := { dst := some 31, op := Op.load 3 (Operand.tmp 30), type := 3, pos := "law.go:66", after := #[{ on := 2, ground := Ground.data }], guard := none }) (v := ?_) rfl (by kernel_rfl) (by kernel_rfl) (by kernel_rfl) (fun _ _ _ h => h) (Or.inl ⟨by rfl, ?_⟩) (by assumption) ?_
        rotate_left; · ((intro w hSw; (try dsimp only at hSw); go_simp); try with_reducible rfl)
        try simp only [Act.put, List.setIfInBounds_toArray, List.set_cons_zero, List.set_cons_succ]
        refine wpAnyH_ready (rs := [4]) (by kernel_rfl) (by simp) ?_
        refine AllReadyH.cons rfl (fun K hK => ?_) ?_
        · go_simp
          (refine hC.mono ?_; rintro e w1 ⟨⟨v, rfl, hv⟩, v2, h1, k1⟩; have k1' : Keeps [t] W0 w1 := ⟨k1.os, k1.tape, k1.output, k1.size, k1.block⟩; have HB2 := Lib.hid (HB.out.keeps k1' HF.out); have r0 := HB2.out.r.cell 0; have r1 := HB2.out.r.cell 1; have r2 := HB2.out.r.cell 2; have p0 := HB2.out.r.frozen 0; have p1 := HB2.out.r.frozen 1; have p2 := HB2.out.r.frozen 2; simp at r0 r1 r2; have HV := Lib.hid hv; have H1 := Lib.hid h1; have K1 := Lib.hid k1'; clear hv h1 k1 k1')
          refine hK.out _ _ ?_ (fun hHeld => ?_)
          · (try dsimp only); (first | exact ⟨x2, s0, s1, s2⟩ | exact due_cells HB2.out | exact hHeld | exact due_cells2 HB2.out)
          clear hK K
          try simp only [Act.put, List.setIfInBounds_toArray, List.set_cons_zero, List.set_cons_succ]
          refine wpAnyH_ready (rs := [5]) (by kernel_rfl) (by simp) ?_
          refine AllReadyH.cons rfl (fun K hK => ?_) ?_
          · go_simp
            refine hK.out _ _ ?_ (fun hHeld => ?_)
            · (try dsimp only); (first | exact ⟨x2, s0, s1, s2⟩ | exact due_cells HB2.out | exact hHeld | exact due_cells2 HB2.out)
            clear hK K
            try simp only [Act.put, List.setIfInBounds_toArray, List.set_cons_zero, List.set_cons_succ]
            refine wpAnyH_take (i := 6) (oi := { dst := some 5, op := Op.assign (Operand.tmp 32), type := 32, pos := "law.go:66", after := #[{ on := 4, ground := Ground.data }, { on := 5, ground := Ground.chain }, { on := 0, ground := Ground.phase }, { on := 1, ground := Ground.phase }, { on := 2, ground := Ground.phase }, { on := 3, ground := Ground.phase }, { on := 4, ground := Ground.phase }, { on := 5, ground := Ground.phase }], guard := none }) (v := ?_) rfl (by kernel_rfl) (by kernel_rfl) (by kernel_rfl) (fun _ _ _ h => h) (Or.inl ⟨by rfl, ?_⟩) (by assumption) ?_
            rotate_left; · ((intro w hSw; (try dsimp only at hSw); go_simp); try with_reducible rfl)
            try simp only [Act.put, List.setIfInBounds_toArray, List.set_cons_zero, List.set_cons_succ]
            refine wpAnyH_done (by kernel_rfl) ?_ _
            (go_wp2; obtain ⟨f1, f2⟩ := fin_cells (e := 0) (c := false) (d := 0) HB2.out.r; have z0 := f1.cell 0; have z1 := f1.cell 1; have z2 := f1.cell 2; refine bodyPost_ret (v := .tuple #[saidV (0, false, 0, ys), v]) (by simp [results, Try.results14, go_sem, saidV, z0, z1, z2]) rfl ?_; exact want_end (r := (0, false, 0, ys)) (v := v) K0.out HB.out.sz H1.out HTL.out (.inl rfl) HGL.out (Nat.lt_of_lt_of_le HG0.out K1.out.size) K1.out (f2.mono (by simp)) ((NewI.keeps HV.out f2 (by have := HB.out.sz; simp only [World.drew]; simp; omega)).to (by have := HB.out.sz; simp only [World.drew]; omega)))
          exact AllReadyH.nil
        exact AllReadyH.nil
      · have c2 : (k == 2) = false := by simpa using h2
        have k00 : Hid (Keeps [t] W0 W0) := Lib.hid (Keeps.refl _ _)
        by_cases h3 : k = 3
        · subst h3
          obtain ⟨o, ho⟩ : ∃ o, findL L a = o := ⟨_, rfl⟩
          have hS := rTfind_any t g v L a o ho W0 HH.out
          have hd : doL L ⟨3, a, b⟩ = ((0, o.isSome, o.getD 0, []), L) := by simp [doL, ho]
          obtain ⟨is, his⟩ : ∃ is, o.isSome = is := ⟨_, rfl⟩
          obtain ⟨nn, hnn⟩ : ∃ nn, o.getD 0 = nn := ⟨_, rfl⟩
          rw [hd, his, hnn]
          rw [his, hnn] at hS
          have HB1 := HB
          have q0 := HB1.out.s.cell 0
          have q1 := HB1.out.s.cell 1
          have q2 := HB1.out.s.cell 2
          have r0 := HB1.out.r.cell 0
          have r1 := HB1.out.r.cell 1
          have r2 := HB1.out.r.cell 2
          have g0 := HB1.out.s.frozen 0
          have g1 := HB1.out.s.frozen 1
          have g2 := HB1.out.s.frozen 2
          have p0 := HB1.out.r.frozen 0
          have p1 := HB1.out.r.frozen 1
          have p2 := HB1.out.r.frozen 2
          simp at q0 q1 q2 r0 r1 r2
          have hne : w.heap.size + 1 ≠ w.heap.size + 1 + 1 := by omega
          have hne2 : w.heap.size + 1 + 1 ≠ w.heap.size + 1 := by omega
          clear hd his hnn ho
          go_enter Try.func14, Try.ntmps14
          go_wp2_with (fail)
          rw [HW0.out]
          refine hS.mono ?_
          rintro e w1 ⟨rfl, rfl⟩
          clear hS
          go_wp2
          obtain ⟨Wb, hWb⟩ : ∃ Wb, ((W0.setCell ⟨w.heap.size + 1 + 1, 2, none⟩ (.int .i64 nn)).setCell ⟨w.heap.size + 1 + 1, 1, none⟩ (.bool is)) = Wb := ⟨_, rfl⟩
          rw [hWb]
          have hb : Blk Wb (w.heap.size + 1) 31 #[.int .i64 0, .bool false, .int .i64 0] := by rw [← hWb]; exact (HB1.out.r.far (p := ⟨w.heap.size + 1 + 1, 2, none⟩) hne _).far (p := ⟨w.heap.size + 1 + 1, 1, none⟩) hne _
          have hkb : Keeps [w.heap.size + 1, w.heap.size + 1 + 1] W0 Wb := by rw [← hWb]; exact ((Keeps.refl _ _).setCell (p := ⟨w.heap.size + 1 + 1, 2, none⟩) (.inl (by simp)) _).setCell (p := ⟨w.heap.size + 1 + 1, 1, none⟩) (.inl (by simp)) _
          obtain ⟨f1, f2⟩ := fin_cells (e := 0) (c := is) (d := nn) hb
          have z0 := f1.cell 0
          have z1 := f1.cell 1
          have z2 := f1.cell 2
          refine bodyPost_ret (v := .tuple #[saidV (0, is, nn, []), .slice none 0 0]) (by simp [results, Try.results14, go_sem, saidV, z0, z1, z2]) rfl ?_
          exact want_end (r := (0, is, nn, [])) (v := .slice none 0 0) K0.out HB.out.sz HH.out HTL.out (.inl rfl) HGL.out HG0.out k00.out (hkb.trans (f2.mono (by simp))) (show NewI _ _ _ [] from World.ownsRow_nil _ _ _ _)
        · have c3 : (k == 3) = false := by simpa using h3
          have hd : doL L ⟨k, a, b⟩ = ((0, false, 0, []), L) := by simp [doL, h0, h1, h2, h3]
          rw [hd]
          clear hd h0 h1 h2 h3
          have HB1 := HB
          go_enter Try.func14, Try.ntmps14
          go_wp2
          rw [HW0.out]
          have z0 := HB.out.r.cell 0
          have z1 := HB.out.r.cell 1
          have z2 := HB.out.r.cell 2
          refine bodyPost_ret (v := .tuple #[saidV (0, false, 0, []), .slice none 0 0]) (by simp [results, Try.results14, go_sem, saidV, z0, z1, z2]) rfl ?_
          exact want_end (r := (0, false, 0, [])) (v := .slice none 0 0) K0.out HB.out.sz HH.out HTL.out (.inl rfl) HGL.out HG0.out k00.out (Keeps.refl _ _) (show NewI _ _ _ [] from World.ownsRow_nil _ _ _ _)
end Go.Proofs.Ytkkajcakgihckaa
