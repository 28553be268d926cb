/- The walks of a timer's New, Find, Next, Cancel. -/
import Derived.Test.YtkkajcakgihckaaTimI
import Derived.Deep.RegionHeld3
namespace Go.Proofs.Ytkkajcakgihckaa
open Go.RowKit
attribute [local go_sem] Oper.semAt_some
attribute [local go_sem ↓] Go.wp_at_zero Go.wp_at_succ

theorem tmnew_any (w : World) :
    Calls Try.prog 11 #[] w fun e w' => e = .returned (.pointer (some ⟨w.heap.size + 1, 0, none⟩)) ∧ TiAt w' [w.heap.size, w.heap.size + 1] (w.heap.size + 1) 0 [] ∧ Keeps [] w w' := by
  have hmm := fun W => run_makeMap (P := Try.prog) 51 W
  go_enter Try.func11, Try.ntmps11
  go_wp2
  go_ret
  have hk : Keeps [] w (w.alloc (.map #[] 0)) := (Keeps.refl [] w).alloc _
  have hb : Blk ((w.alloc (.map #[] 0)).alloc (.cells #[.slice none 0 0, .map (some w.heap.size)] 55)) (w.heap.size + 1) 55 #[.slice none 0 0, .map (some w.heap.size)] := by
    have := Blk.new (w.alloc (.map #[] 0)) 55 #[.slice none 0 0, .map (some w.heap.size)]
    rwa [World.size_alloc] at this
  refine ⟨rfl, ⟨⟨[w.heap.size + 1], w.heap.size, .slice none 0 0, 0, fun _ => ⟨0, ⟨0, 0⟩⟩, fun _ => none⟩, ⟨⟨hb, World.ownsRow_nil _ _ _ _, fun k hk => absurd hk (Nat.not_lt_zero k), Nat.zero_le _, by simp, by simp [Value.ownBlock], fun k hk => absurd hk (Nat.not_lt_zero k)⟩, fun k _ h2 => absurd h2 (Nat.not_lt_zero k), by simp [lst], TiGood.nil, ?_, by simp, fun k hk => absurd hk (Nat.not_lt_zero k), fun _ _ => rfl⟩, rfl⟩, hk.alloc _⟩
  exact (MpAt.new w).keeps ((Keeps.refl [] _).alloc _) (by simp)

theorem tmfind_any (F : List Nat) (t n : Nat) (L : List Ke) (key : Int) (o : Option Int) (ho : findL L key = o) (hw : (Lit.int .i64 key).wf = true) (w : World) (h : TiAt w F t n L) :
    Calls Try.prog 20 #[.pointer (some ⟨t, 0, none⟩), .int .i64 key] w fun e w' => e = .returned (.tuple #[.int .i64 (o.getD 0), .bool o.isSome]) ∧ w = w' := by
  obtain ⟨G, hG, rfl⟩ := h
  have c1 := hG.row.head.cell 1
  simp at c1
  have hl := hG.map_.look key hw
  rcases hG.find key with ⟨h1, h2⟩ | ⟨i, hi, hk, h1, h2⟩
  · rw [h2] at ho
    subst ho
    rw [h1] at hl
    simp only [ptrO, Option.isSome] at hl
    clear hG hw h1 h2
    go_enter Try.func20, Try.ntmps20
    go_wp2
    go_ret2
    exact ⟨rfl, rfl⟩
  · rw [h2] at ho
    subst ho
    rw [h1] at hl
    simp only [ptrO, Option.isSome] at hl
    have e1 := (hG.row.ent i hi).cell 1
    simp at e1
    clear hG hw h1 h2
    go_enter Try.func20, Try.ntmps20
    go_wp2
    go_ret2
    exact ⟨rfl, rfl⟩

/-- What Next answers. -/
def nextL : List Ke → Int × Int × Bool
  | [] => (0, 0, false)
  | k :: _ => (k.key, k.at_, true)

set_option maxRecDepth 100000 in
set_option maxHeartbeats 1000000 in
theorem tmnext_any (F : List Nat) (t n : Nat) (L : List Ke) (r : Int × Int × Bool) (hr : nextL L = r) (w : World) (h : TiAt w F t n L) :
    Calls Try.prog 15 #[.pointer (some ⟨t, 0, none⟩)] w fun e w' => e = .returned (.tuple #[.int .i64 r.1, .int .i64 r.2.1, .bool r.2.2]) ∧ Keeps [] w w' := by
  obtain ⟨G, hG, rfl⟩ := h
  have c0 := hG.row.head.cell 0
  simp at c0
  subst hr
  obtain ⟨a, c, hv⟩ := owns_val hG.row.row
  rw [hv] at c0
  rcases hG.next with ⟨h0, rfl⟩ | ⟨h0, l, rfl⟩
  · rw [h0] at c0
    clear hG hv h0
    simp only [nextL]
    go_enter Try.func15, Try.ntmps15
    go_wp2_with (go_at_call 28; refine (elen_any _ _ _ _).mono ?_; rintro e w3 ⟨rfl, rfl⟩)
    refine bodyPost_ret (v := .tuple #[.int .i64 0, .int .i64 0, .bool false]) (by simp [results, Try.results15, go_sem]) rfl ?_
    exact ⟨rfl, Keeps.refl _ _⟩
  · obtain ⟨g, cap, hv2, hR⟩ := hG.row.hr h0
    rw [hv] at hv2
    injection hv2 with e1 e2 e3
    subst e1 e3
    have cr := hR.cr h0
    have e0 := (hR.ent 0 h0).cell 0
    have e1 := (hR.ent 0 h0).cell 1
    simp at e0 e1
    have i1 : (0 : Int) < (G.N : Int) := by omega
    have i2 : ((G.N : Int) == 0) = false := by simp; omega
    have i3 : ¬ (G.N = 0) := by omega
    simp only [nextL]
    clear hG hR hv
    go_enter Try.func15, Try.ntmps15
    go_wp2_with (first | (go_at_call 28; refine (elen_any _ _ _ _).mono ?_; rintro e w3 ⟨rfl, rfl⟩))
    go_quiet (fail)
    go_wp2
    refine bodyPost_ret (v := .tuple #[.int .i64 (G.f 0).k.key, .int .i64 (G.f 0).k.at_, .bool true]) (by simp [results, Try.results15, go_sem]) rfl ?_
    exact ⟨rfl, (Keeps.refl _ _).drewN _⟩

theorem goodK_wf {key at_ : Int} (h : goodK key at_ = true) : (Lit.int .i64 key).wf = true ∧ (Lit.int .i64 at_).wf = true := by
  simp only [goodK, decide_eq_true_eq] at h
  constructor <;> (simp [Lit.wf]; exact ⟨by show (-9223372036854775808 : Int) ≤ _; omega, by omega⟩)

/-- What a taking leaves, as one fact. -/
structure PkE (w w1 : World) (S : List Nat) (t m g cap N : Nat) (f f1 : Nat → EnB) (x : EnB) : Prop where
  intro ::
  h : HR w1 S t m g cap N f1
  d : Heap EnB.le f1 N
  p : (lst f1 N ++ [x]).Perm (lst f (N + 1))
  k : Keeps S w.drew w1
theorem cancel_end {w w1 w2 : World} {t n N g cap i : Nat} {L : List Ke} {G : TiG} {key : Int} {f1 : Nat → EnB} (hG : TiA w t n L G) (hN : G.N = N + 1) (hi : i < N + 1) (hk : (G.f i).k.key = key) (h : PkE w w1 G.S t G.m g cap N G.f f1 (G.f i))
    (hm2 : MpAt w2 G.m n (fun k => if k = key then none else G.φ k)) (hg2 : w1.grownBy w2 (some G.m)) : TiAt w2 G.F t n (cancelL L key) ∧ Keeps G.F w w2 := by
  have hk2 : Keeps [G.m] w1 w2 := (Keeps.refl [G.m] w1).grown hg2 (fun k hk => .inl (by injection hk with hk; simp [hk]))
  refine ⟨?_, ?_⟩
  · have := hG.took hN hi h.h h.d h.p (w2 := w2) (by rw [hk]; exact hm2) hk2
    rwa [hk] at this
  · exact (((Keeps.refl G.F w).drew).trans (h.k.mono (fun k hk => List.mem_cons_of_mem _ hk))).trans (hk2.mono (fun k hk => by simp only [List.mem_singleton] at hk; subst hk; exact List.mem_cons_self))

set_option maxRecDepth 100000 in
set_option maxHeartbeats 1000000 in
theorem tmcancel_any (F : List Nat) (t n : Nat) (L : List Ke) (key : Int) (r : Bool) (hr : (findL L key).isSome = r) (hw : (Lit.int .i64 key).wf = true) (w : World) (h : TiAt w F t n L) :
    Calls Try.prog 23 #[.pointer (some ⟨t, 0, none⟩), .int .i64 key] w fun e w' => e = .returned (.bool r) ∧ TiAt w' F t n (cancelL L key) ∧ Keeps F w w' := by
  obtain ⟨G, hG, hGF⟩ := h
  obtain rfl := hGF
  have c1 := hG.row.head.cell 1
  simp at c1
  have hl := hG.map_.look key hw
  rcases hG.find key with ⟨h1, h2⟩ | ⟨i, hi, hk, h1, h2⟩
  · rw [h2] at hr
    subst hr
    rw [h1] at hl
    simp only [ptrO, Option.isSome] at hl
    have HG : Hid (TiAt w G.F t n (cancelL L key)) := Lib.hid (by rw [cancelL_none h2]; exact ⟨G, hG, rfl⟩)
    clear hG hw h1 h2
    go_enter Try.func23, Try.ntmps23
    go_wp2
    go_ret
    exact ⟨rfl, HG.out, Keeps.refl _ _⟩
  · rw [h2] at hr
    subst hr
    rw [h1] at hl
    simp only [ptrO, Option.isSome] at hl
    obtain ⟨N, hN⟩ : ∃ N, G.N = N + 1 := ⟨G.N - 1, by omega⟩
    obtain ⟨g, cap, hv, hR⟩ := hG.row.hr (by omega)
    rw [hN] at hR hi
    have e2 := (hR.ent i hi).cell 2
    simp at e2
    have hh := hG.heap
    rw [hN] at hh
    have hQ := hremove_any G.S t G.m g cap N G.f i w.drew (hR.keeps ((Keeps.refl [] w).drew) (by simp)) hi hh
    have HG := Lib.hid hG
    have HW := Lib.hid hw
    have HK := Lib.hid hk
    have HI := Lib.hid hi
    have HN := Lib.hid hN
    clear hG hw h1 h2 hh hR hN hi hk
    go_enter Try.func23, Try.ntmps23
    go_wp2_with (fail)
    have hQ2 := hQ
    clear hQ
    refine wp_region_held_drew (S := (fun _ : World => True)) (by kernel_rfl) ?_ (fun hHeld => ?_)
    · trivial
    refine wpAnyH_take (i := 0) (oi := { dst := some 19, op := Op.move (Operand.tmp 0), type := 25, pos := "timer.go:111", after := #[], guard := none }) (v := ?_) rfl (by kernel_rfl) (by kernel_rfl) (by kernel_rfl) (fun _ _ _ h => h) (Or.inl ⟨by rfl, ?_⟩) (by assumption) ?_
    rotate_left; · ((intro w hSw; (try dsimp only at hSw); go_simp); try with_reducible rfl)
    try simp only [Act.put, List.setIfInBounds_toArray, List.set_cons_zero, List.set_cons_succ]
    refine wpAnyH_take (i := 1) (oi := { dst := some 20, op := Op.nilCheck (Operand.tmp 19), type := 0, pos := "timer.go:111", after := #[{ on := 0, ground := Ground.data }], guard := none }) (v := ?_) rfl (by kernel_rfl) (by kernel_rfl) (by kernel_rfl) (fun _ _ _ h => h) (Or.inl ⟨by rfl, ?_⟩) (by assumption) ?_
    rotate_left; · ((intro w hSw; (try dsimp only at hSw); go_simp); try with_reducible rfl)
    try simp only [Act.put, List.setIfInBounds_toArray, List.set_cons_zero, List.set_cons_succ]
    refine wpAnyH_take (i := 2) (oi := { dst := some 21, op := Op.fieldAddr 55 (Operand.tmp 20) 0, type := 0, pos := "timer.go:111", after := #[{ on := 1, ground := Ground.data }], guard := none }) (v := ?_) rfl (by kernel_rfl) (by kernel_rfl) (by kernel_rfl) (fun _ _ _ h => h) (Or.inl ⟨by rfl, ?_⟩) (by assumption) ?_
    rotate_left; · ((intro w hSw; (try dsimp only at hSw); go_simp); try with_reducible rfl)
    try simp only [Act.put, List.setIfInBounds_toArray, List.set_cons_zero, List.set_cons_succ]
    refine wpAnyH_take (i := 4) (oi := { dst := some 23, op := Op.move (Operand.tmp 5), type := 60, pos := "timer.go:111", after := #[], guard := none }) (v := ?_) rfl (by kernel_rfl) (by kernel_rfl) (by kernel_rfl) (fun _ _ _ h => h) (Or.inl ⟨by rfl, ?_⟩) (by assumption) ?_
    rotate_left; · ((intro w hSw; (try dsimp only at hSw); go_simp); try with_reducible rfl)
    try simp only [Act.put, List.setIfInBounds_toArray, List.set_cons_zero, List.set_cons_succ]
    refine wpAnyH_take (i := 5) (oi := { dst := some 24, op := Op.nilCheck (Operand.tmp 23), type := 0, pos := "timer.go:111", after := #[{ on := 4, ground := Ground.data }], guard := none }) (v := ?_) rfl (by kernel_rfl) (by kernel_rfl) (by kernel_rfl) (fun _ _ _ h => h) (Or.inl ⟨by rfl, ?_⟩) (by assumption) ?_
    rotate_left; · ((intro w hSw; (try dsimp only at hSw); go_simp); try with_reducible rfl)
    try simp only [Act.put, List.setIfInBounds_toArray, List.set_cons_zero, List.set_cons_succ]
    refine wpAnyH_take (i := 6) (oi := { dst := some 25, op := Op.fieldAddr 62 (Operand.tmp 24) 2, type := 0, pos := "timer.go:111", after := #[{ on := 5, ground := Ground.data }], guard := none }) (v := ?_) rfl (by kernel_rfl) (by kernel_rfl) (by kernel_rfl) (fun _ _ _ h => h) (Or.inl ⟨by rfl, ?_⟩) (by assumption) ?_
    rotate_left; · ((intro w hSw; (try dsimp only at hSw); go_simp); try with_reducible rfl)
    try simp only [Act.put, List.setIfInBounds_toArray, List.set_cons_zero, List.set_cons_succ]
    refine wpAnyH_ready (rs := [3, 7]) (by kernel_rfl) (by simp) ?_
    refine AllReadyH.cons rfl (fun K hK => ?_) ?_
    · go_simp
      refine hK.out _ _ ?_ (fun hHeld => ?_)
      · trivial
      clear hK K
      try simp only [Act.put, List.setIfInBounds_toArray, List.set_cons_zero, List.set_cons_succ]
      refine wpAnyH_ready (rs := [7]) (by kernel_rfl) (by simp) ?_
      refine AllReadyH.cons rfl (fun K hK => ?_) ?_
      · go_simp
        refine hK.out _ _ ?_ (fun hHeld => ?_)
        · trivial
        clear hK K
        try simp only [Act.put, List.setIfInBounds_toArray, List.set_cons_zero, List.set_cons_succ]
        refine wpAnyH_ready (rs := [8]) (by kernel_rfl) (by simp) ?_
        refine AllReadyH.cons rfl (fun K hK => ?_) ?_
        · go_simp
          (refine hQ2.mono ?_; rintro e w1 ⟨rfl, f1, h1, d1, p1, k1, b1, n1⟩)
          refine hK.out _ _ ?_ (fun hHeld => ?_)
          · trivial
          clear hK K
          try simp only [Act.put, List.setIfInBounds_toArray, List.set_cons_zero, List.set_cons_succ]
          refine wpAnyH_done (by kernel_rfl) ?_ _
          (have c2 := h1.head.cell 1; simp at c2; have HM1 := Lib.hid ((HG.out.map_.keeps ((Keeps.refl [] w).drew) (by simp)).keeps k1 HG.out.mS); have HE := Lib.hid (PkE.intro h1 d1 p1 k1); clear h1 d1 p1 k1 b1 n1 hHeld; obtain ⟨w2, hrun, hm2, hg2⟩ := HM1.out.drop key HW.out 0; replace hm2 := Lib.hid hm2; replace hg2 := Lib.hid hg2; go_wp2; go_ret; exact ⟨rfl, cancel_end HG.out HN.out HI.out HK.out HE.out hm2.out hg2.out⟩)
        exact AllReadyH.nil
      exact AllReadyH.nil
    refine AllReadyH.cons rfl (fun K hK => ?_) ?_
    · go_simp
      refine hK.out _ _ ?_ (fun hHeld => ?_)
      · trivial
      clear hK K
      try simp only [Act.put, List.setIfInBounds_toArray, List.set_cons_zero, List.set_cons_succ]
      refine wpAnyH_ready (rs := [3]) (by kernel_rfl) (by simp) ?_
      refine AllReadyH.cons rfl (fun K hK => ?_) ?_
      · go_simp
        refine hK.out _ _ ?_ (fun hHeld => ?_)
        · trivial
        clear hK K
        try simp only [Act.put, List.setIfInBounds_toArray, List.set_cons_zero, List.set_cons_succ]
        refine wpAnyH_ready (rs := [8]) (by kernel_rfl) (by simp) ?_
        refine AllReadyH.cons rfl (fun K hK => ?_) ?_
        · go_simp
          (refine hQ2.mono ?_; rintro e w1 ⟨rfl, f1, h1, d1, p1, k1, b1, n1⟩)
          refine hK.out _ _ ?_ (fun hHeld => ?_)
          · trivial
          clear hK K
          try simp only [Act.put, List.setIfInBounds_toArray, List.set_cons_zero, List.set_cons_succ]
          refine wpAnyH_done (by kernel_rfl) ?_ _
          (have c2 := h1.head.cell 1; simp at c2; have HM1 := Lib.hid ((HG.out.map_.keeps ((Keeps.refl [] w).drew) (by simp)).keeps k1 HG.out.mS); have HE := Lib.hid (PkE.intro h1 d1 p1 k1); clear h1 d1 p1 k1 b1 n1 hHeld; obtain ⟨w2, hrun, hm2, hg2⟩ := HM1.out.drop key HW.out 0; replace hm2 := Lib.hid hm2; replace hg2 := Lib.hid hg2; go_wp2; go_ret; exact ⟨rfl, cancel_end HG.out HN.out HI.out HK.out HE.out hm2.out hg2.out⟩)
        exact AllReadyH.nil
      exact AllReadyH.nil
    exact AllReadyH.nil
end Go.Proofs.Ytkkajcakgihckaa
