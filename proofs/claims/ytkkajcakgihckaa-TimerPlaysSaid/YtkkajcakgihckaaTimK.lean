/- A timer's Set: what it leaves, and its walk. -/
import Derived.Test.YtkkajcakgihckaaTimJ
namespace Go.Proofs.Ytkkajcakgihckaa
open Go.RowKit
attribute [local go_sem] Oper.semAt_some
attribute [local go_sem ↓] Go.wp_at_zero Go.wp_at_succ

/-- One entry's tick is turned. -/
def turnE (f : Nat → EnB) (i : Nat) (key at_ : Int) : Nat → EnB := fun k => if k = i then ⟨(f i).b, ⟨key, at_⟩⟩ else f k

section
variable {w w1 w' : World} {S : List Nat} {t m n g cap N i : Nat} {L : List Ke} {G : TiG} {f f' : Nat → EnB} {key at_ : Int}
theorem HR.turn (h : HR w S t m g cap N f) (hi : i < N) (hk : (f i).k.key = key) : HR (w.setCell ⟨(f i).b, 1, none⟩ (.int .i64 at_)) S t m g cap N (turnE f i key at_) ∧ Keeps S w (w.setCell ⟨(f i).b, 1, none⟩ (.int .i64 at_)) := by
  obtain ⟨cur, h1, h2, h3⟩ := h.row
  have hb : ∀ k, (turnE f i key at_ k).b = (f k).b := fun k => by unfold turnE; by_cases e : k = i <;> simp [e]
  refine ⟨⟨h.head.far (p := ⟨(f i).b, 1, none⟩) (h.te hi) _, ⟨cur, h1.far (p := ⟨(f i).b, 1, none⟩) (h.ge hi) _, h2, fun k hk' => ?_⟩, fun k hk' => ?_, h.le, h.cM, h.max, h.tS, h.gS, fun k hk' => by rw [hb]; exact h.eS k hk'⟩,
    (Keeps.refl S w).setCell (p := ⟨(f i).b, 1, none⟩) (.inl (h.eS i hi)) _⟩
  · rw [h3 k hk']; unfold EnB.ptr; rw [hb]
  · by_cases e : k = i
    · subst e
      have hB := (h.ent k hk').set_ 1 (.int .i64 at_)
      have e1 : turnE f k key at_ k = ⟨(f k).b, ⟨key, at_⟩⟩ := if_pos rfl
      rw [e1]
      subst hk
      exact hB
    · have e1 : turnE f i key at_ k = f k := if_neg e
      rw [e1]
      exact (h.ent k hk').far (p := ⟨(f i).b, 1, none⟩) (h.ee hk' hi e) _
theorem TiA.turned (h : TiA w t n L G) (hi : i < G.N) (hk : (G.f i).k.key = key) (hg : goodK key at_ = true) (hr : HR w1 G.S t G.m g cap G.N f') (hh : Heap EnB.le f' G.N) (hp : (lst f' G.N).Perm (lst (turnE G.f i key at_) G.N)) (hm : MpAt w1 G.m n G.φ) : TiAt w1 G.F t n (setL L key at_) := by
  have hb : ∀ k, (turnE G.f i key at_ k).b = (G.f k).b ∧ (turnE G.f i key at_ k).k.key = (G.f k).k.key := fun k => by
    unfold turnE
    by_cases e : k = i
    · subst e; simp [hk]
    · simp [e]
  have hmem : ∀ k, k < G.N → ∃ j, j < G.N ∧ turnE G.f i key at_ j = f' k := fun k hk' => mem_lst.1 (hp.subset (mem_lst.2 ⟨k, hk', rfl⟩))
  have hmem2 : ∀ j, j < G.N → ∃ k, k < G.N ∧ f' k = turnE G.f i key at_ j := fun k hk' => mem_lst.1 (hp.symm.subset (mem_lst.2 ⟨k, hk', rfl⟩))
  have hset : TiOk (setL L key at_) := h.good.ok.set hg
  refine ⟨⟨G.S, G.m, .slice (some ⟨g, 0, none⟩) G.N cap, G.N, f', G.φ⟩, ⟨hr.hn, hh, (hp.map EnB.k).trans ?_, ⟨hset, ?_⟩, hm, h.mS, fun k hk' => ?_, fun ky hky => ?_⟩, rfl⟩
  · rw [List.perm_ext_iff_of_nodup]
    · intro x
      rw [mem_setL, lst_map, mem_lst]
      constructor
      · rintro ⟨j, hj, rfl⟩
        by_cases e : j = i
        · subst e; exact .inl (by simp [turnE])
        · refine .inr ⟨?_, ?_⟩
          · have e1 : turnE G.f i key at_ j = G.f j := if_neg e
            rw [e1]; exact h.mem.2 ⟨j, hj, rfl⟩
          · rw [(hb j).2, ← hk]; exact h.keys hj hi e
      · rintro (rfl | ⟨hx, hne⟩)
        · exact ⟨i, hi, by simp [turnE]⟩
        · obtain ⟨j, hj, rfl⟩ := h.mem.1 hx
          have e : j ≠ i := fun e => by subst e; exact hne hk
          have e1 : turnE G.f i key at_ j = G.f j := if_neg e
          exact ⟨j, hj, by rw [e1]⟩
    · rw [List.nodup_iff_pairwise_ne, List.pairwise_iff_getElem]
      intro a b ha hb' hab
      simp only [List.length_map, lst_length] at ha hb'
      simp only [lst, List.getElem_map, List.getElem_range]
      intro e
      have := congrArg Ke.key e
      rw [(hb a).2, (hb b).2] at this
      exact h.keys ha hb' (by omega) this
    · rw [List.nodup_iff_pairwise_ne]
      exact hset.one.imp (fun h e => h (by rw [e]))
  · have h1 := setL_length h.good.ok key at_
    have h2 : findL L key ≠ none := fun e => findL_none.1 e _ (h.mem.2 ⟨i, hi, rfl⟩) hk
    rw [if_neg h2] at h1
    have := h.good.le
    omega
  · obtain ⟨j, hj, e⟩ := hmem k hk'
    show G.φ (f' k).k.key = some (f' k).b
    rw [← e, (hb j).1, (hb j).2]
    exact h.hit j hj
  · refine h.mis ky fun j hj e => ?_
    obtain ⟨k, hk', e2⟩ := hmem2 j hj
    exact hky k hk' (by show (f' k).k.key = ky; rw [e2, (hb j).2]; exact e)
theorem TiA.added {w3 w5 w6 : World} {S' : List Nat} {b : Nat} (h : TiA w t n L G) (hN : G.N < 64) (hf : findL L key = none) (hg : goodK key at_ = true) (hr : HR w6 S' t G.m g cap (G.N + 1) f') (hh : Heap EnB.le f' (G.N + 1)) (hp : (lst f' (G.N + 1)).Perm (lst G.f G.N ++ [⟨b, ⟨key, at_⟩⟩]))
    (hm : MpAt w5 G.m (n + 1) (fun k => if k = key then some b else G.φ k)) (hk : Keeps (b :: G.S) w5 w6) (hbm : b ≠ G.m) (hmw : G.m < w3.heap.size) (hw : w3.heap.size ≤ w5.heap.size) (hS : ∀ y ∈ S', y ∈ b :: G.S ∨ w5.heap.size ≤ y) : TiAt w6 (G.m :: S') t (n + 1) (setL L key at_) := by
  have hnk : ∀ j, j < G.N → (G.f j).k.key ≠ key := fun j hj => findL_none.1 hf _ (h.mem.2 ⟨j, hj, rfl⟩)
  have hmem : ∀ k, k < G.N + 1 → (∃ j, j < G.N ∧ G.f j = f' k) ∨ f' k = ⟨b, ⟨key, at_⟩⟩ := fun k hk' => by
    rcases List.mem_append.1 (hp.subset (mem_lst.2 ⟨k, hk', rfl⟩)) with h1 | h1
    · exact .inl (mem_lst.1 h1)
    · exact .inr (by simpa using h1)
  have hset : TiOk (setL L key at_) := h.good.ok.set hg
  have hmS : G.m ∉ b :: G.S := fun e => by
    rcases List.mem_cons.1 e with e | e
    · exact hbm e.symm
    · exact h.mS e
  refine ⟨⟨S', G.m, .slice (some ⟨g, 0, none⟩) (G.N + 1) cap, G.N + 1, f', fun k => if k = key then some b else G.φ k⟩, ⟨hr.hn, hh, ?_, ⟨hset, ?_⟩, hm.keeps hk hmS, fun e => ?_, fun k hk' => ?_, fun ky hky => ?_⟩, rfl⟩
  · refine (hp.map EnB.k).trans ?_
    rw [List.map_append]
    unfold setL
    rw [cancelL_none hf]
    refine List.Perm.trans ?_ (insL_perm ⟨key, at_⟩ L).symm
    exact List.perm_append_comm.trans (h.perm.cons _)
  · have h1 := setL_length h.good.ok key at_
    rw [if_pos hf] at h1
    have := h.len
    omega
  · rcases hS _ e with e | e
    · exact hmS e
    · have e2 : w5.heap.size ≤ G.m := e
      omega
  · show (if (f' k).k.key = key then some b else G.φ (f' k).k.key) = some (f' k).b
    rcases hmem k hk' with ⟨j, hj, e⟩ | e
    · rw [← e, if_neg (hnk j hj)]; exact h.hit j hj
    · rw [e, if_pos rfl]
  · show (if ky = key then some b else G.φ ky) = none
    have hx : ∀ x ∈ lst G.f G.N ++ [(⟨b, ⟨key, at_⟩⟩ : EnB)], x.k.key ≠ ky := fun x hx => by
      obtain ⟨k, hk', rfl⟩ := mem_lst.1 (hp.symm.subset hx)
      exact hky k hk'
    have h1 := hx ⟨b, ⟨key, at_⟩⟩ (by simp)
    rw [if_neg (fun e => h1 e.symm)]
    exact h.mis ky fun j hj => hx (G.f j) (List.mem_append_left _ (mem_lst.2 ⟨j, hj, rfl⟩))
theorem HN.more {v : Value} (h : HN w S t m v N f) (b : Nat) : HN w (b :: S) t m v N f :=
  ⟨h.head, h.row, h.ent, h.max, List.mem_cons_of_mem _ h.tS, fun j hj => List.mem_cons_of_mem _ (h.own j hj), fun k hk => List.mem_cons_of_mem _ (h.eS k hk)⟩
end

/-- What Set leaves. -/
def SetPost (F : List Nat) (t n : Nat) (L : List Ke) (key at_ : Int) (w : World) (e : Ending) (w' : World) : Prop :=
  e = .returned (.int .i64 (setA L key at_).1) ∧ ∃ F', TiAt w' F' t (n + 1) (setA L key at_).2 ∧ (∀ y ∈ F', y ∈ F ∨ w.heap.size ≤ y) ∧ Keeps F w w'

theorem SetPost.old {F : List Nat} {t n : Nat} {L : List Ke} {key at_ c : Int} {w w' : World} (h : TiAt w F t n L) (hk : Keeps [] w w') (hs : setA L key at_ = (c, L)) : SetPost F t n L key at_ w (.returned (.int .i64 c)) w' :=
  ⟨by rw [hs], F, by rw [hs]; exact (h.keeps hk (by simp)).mono (by omega), fun _ hy => .inl hy, hk.mono (by simp)⟩

theorem SetPost.turned {w w3 w4 w5 : World} {t n g cap i : Nat} {L : List Ke} {G : TiG} {key at_ : Int} {f5 : Nat → EnB} (hG : TiA w3 t n L G) (K4 : Keeps [] w w3) (hi : i < G.N) (hk : (G.f i).k.key = key) (hg : goodK key at_ = true) (hs : setA L key at_ = (0, setL L key at_)) (k4 : Keeps G.S w3 w4)
    (h5 : HR w5 G.S t G.m g cap G.N f5) (d5 : Heap EnB.le f5 G.N) (p5 : (lst f5 G.N).Perm (lst (turnE G.f i key at_) G.N)) (k5 : Keeps G.S w4.drew w5) : SetPost G.F t n L key at_ w (.returned (.int .i64 0)) w5 := by
  have k45 : Keeps G.S w3 w5 := k4.drew.trans k5
  refine ⟨by rw [hs], G.F, ?_, fun y hy => .inl hy, (K4.mono (by simp)).trans (k45.mono (fun k hk => List.mem_cons_of_mem _ hk))⟩
  rw [hs]
  exact (hG.turned hi hk hg h5 d5 p5 (hG.map_.keeps k45 hG.mS)).mono (by omega)
theorem add_ready {w3 w5 : World} {t n : Nat} {L : List Ke} {G : TiG} {key at_ : Int} (hG : TiA w3 t n L G) (hb : Blk (w3.alloc (.cells #[.int .i64 key, .int .i64 at_, .int .i64 0] 62)) w3.heap.size 62 #[.int .i64 key, .int .i64 at_, .int .i64 0])
    (hg : (w3.alloc (.cells #[.int .i64 key, .int .i64 at_, .int .i64 0] 62)).grownBy w5 (some G.m)) (hN : G.N < 64) :
    (Calls Try.prog 35 #[.iface 77 (.pointer (some ⟨t, 0, none⟩)), .iface 60 (.pointer (some ⟨w3.heap.size, 0, none⟩))] w5 fun e w' => e = .returned (.tuple #[]) ∧ ∃ g cap S' f', HR w' S' t G.m g cap (G.N + 1) f' ∧ Heap EnB.le f' (G.N + 1) ∧ (lst f' (G.N + 1)).Perm (lst G.f G.N ++ [⟨w3.heap.size, ⟨key, at_⟩⟩]) ∧ (∀ y ∈ S', y ∈ w3.heap.size :: G.S ∨ w5.heap.size ≤ y) ∧ (∀ y ∈ w3.heap.size :: G.S, y ∈ S') ∧ Keeps (w3.heap.size :: G.S) w5 w') ∧
    Keeps [G.m] w3 w5 ∧ w5.cell? ⟨t, 1, none⟩ = some (.map (some G.m)) := by
  have hm := hG.map_.lt
  have k1 : Keeps [G.m] w3 w5 := (((Keeps.refl [G.m] w3).alloc _).grown hg (fun k hk => .inl (by injection hk with hk; simp [hk])))
  have hrow : HN w5 G.S t G.m G.v G.N G.f := hG.row.keeps k1 (fun k hk hm' => by simp only [List.mem_singleton] at hm'; subst hm'; exact hG.mS hk)
  have hb5 : Blk w5 w3.heap.size 62 #[.int .i64 key, .int .i64 at_, .int .i64 0] := (hg.block _ hb.lt (fun e => by injection e with e; omega)).trans hb
  have hlt : ∀ k, k < G.N → (G.f k).b ≠ w3.heap.size := fun k hk e => by have := (hG.row.ent k hk).lt; omega
  exact ⟨hpush_any (w3.heap.size :: G.S) t G.m G.N G.v G.f w3.heap.size ⟨key, at_⟩ _ w5 (hrow.more _) hN hb5 List.mem_cons_self hlt hG.heap, k1, hrow.head.cell 1⟩

theorem cell_alloc_old {w : World} {a : Addr} {v : Value} (h : w.cell? a = some v) (o : Obj) : (w.alloc o).cell? a = some v :=
  (((Keeps.refl [] w).alloc o).cell (World.block_lt_of_cell? w a h) (by simp)).trans h
theorem SetPost.added {w w3 w5 w6 : World} {t n g cap : Nat} {L : List Ke} {G : TiG} {key at_ : Int} {f6 : Nat → EnB} {S' : List Nat} (hG : TiA w3 t n L G) (K4 : Keeps [] w w3) (hN : G.N < 64) (hf : findL L key = none) (hg : goodK key at_ = true) (hs : setA L key at_ = (0, setL L key at_))
    (h6 : HR w6 S' t G.m g cap (G.N + 1) f6) (d6 : Heap EnB.le f6 (G.N + 1)) (p6 : (lst f6 (G.N + 1)).Perm (lst G.f G.N ++ [⟨w3.heap.size, ⟨key, at_⟩⟩])) (s6 : ∀ y ∈ S', y ∈ w3.heap.size :: G.S ∨ w5.heap.size ≤ y) (k6 : Keeps (w3.heap.size :: G.S) w5 w6)
    (hm5 : MpAt w5 G.m (n + 1) (fun k => if k = key then some w3.heap.size else G.φ k)) (k5 : Keeps [G.m] w3 w5) : SetPost G.F t n L key at_ w (.returned (.int .i64 0)) w6 := by
  have hm := hG.map_.lt
  have hsz := K4.size
  have hs5 := k5.size
  refine ⟨by rw [hs], G.m :: S', ?_, fun y hy => ?_, ?_⟩
  · rw [hs]
    exact hG.added hN hf hg h6 d6 p6 hm5 k6 (by omega) hm k5.size s6
  · rcases List.mem_cons.1 hy with rfl | hy
    · exact .inl List.mem_cons_self
    · rcases s6 y hy with h1 | h1
      · rcases List.mem_cons.1 h1 with rfl | h1
        · exact .inr hsz
        · exact .inl (List.mem_cons_of_mem _ h1)
      · exact .inr (by omega)
  · refine ((K4.mono (by simp)).trans (k5.mono (S' := G.F) (fun k hk => by simp only [List.mem_singleton] at hk; subst hk; exact List.mem_cons_self))).trans' k6 (fun k hk => ?_)
    rcases List.mem_cons.1 hk with rfl | hk
    · exact .inr hsz
    · exact .inl (List.mem_cons_of_mem _ hk)

set_option maxRecDepth 100000 in
set_option maxHeartbeats 1000000 in
theorem tmset_any (F : List Nat) (t n : Nat) (L : List Ke) (key at_ : Int) (hn : n < 900) (w : World) (h : TiAt w F t n L) :
    Calls Try.prog 22 #[.pointer (some ⟨t, 0, none⟩), .int .i64 key, .int .i64 at_] w fun e w' => SetPost F t n L key at_ w e w' := by
  have HT := Lib.hid h
  obtain ⟨G, hG, hGF⟩ := h
  obtain rfl := hGF
  have HG := Lib.hid hG
  have hA1 := areIn_any key 1000000 w.heap.size (decide (0 ≤ key ∧ key ≤ 1000000)) rfl (w.alloc (.cells #[.int .i64 key] 3)) (by simp [go_sem])
  have K0 : Hid (Keeps [] w (w.alloc (.cells #[.int .i64 key] 3))) := Lib.hid ((Keeps.refl [] w).alloc _)
  clear hG
  by_cases g1 : 0 ≤ key ∧ key ≤ 1000000
  · by_cases g2 : 0 ≤ at_ ∧ at_ ≤ 1000000000000
    · have hg : goodK key at_ = true := by simp [goodK]; omega
      have HGD := Lib.hid hg
      simp only [g1, and_self, decide_true] at hA1
      have hd : decide (0 ≤ at_ ∧ at_ ≤ 1000000000000) = true := decide_eq_true g2
      have HDD := Lib.hid hd
      have hkw := (goodK_wf hg).1
      have HKW := Lib.hid hkw
      have hml := (HG.out.map_.lt)
      have HML := Lib.hid hml
      clear g1 g2 hd hg hkw hml
      rcases HG.out.find key with ⟨h1, h2⟩ | ⟨i, hi, hk, h1, h2⟩
      rotate_left
      · have hs : setA L key at_ = (0, setL L key at_) := by unfold setA; rw [if_pos HGD.out, if_neg (by rw [h2]; simp)]
        have HS := Lib.hid hs
        have HI := Lib.hid hi
        have HK := Lib.hid hk
        have H1 := Lib.hid h1
        clear hs hi hk h1 h2
        go_enter Try.func22, Try.ntmps22
        go_wp2_with (go_at_call 33; refine hA1.mono ?_; rintro e w1 ⟨rfl, k1⟩; clear hA1; have k2 := K0.out.trans k1; clear k1; have K2 := Lib.hid k2; clear k2)
        have hA2 := areIn_any at_ 1000000000000 w1.heap.size true HDD.out (w1.alloc (.cells #[.int .i64 at_] 3)) (by simp [go_sem])
        have K3 : Hid (Keeps [] w (w1.alloc (.cells #[.int .i64 at_] 3))) := Lib.hid (K2.out.alloc _)
        go_wp2_with (go_at_call 33; refine hA2.mono ?_; rintro e w3 ⟨rfl, k3⟩; clear hA2; have K4 := Lib.hid (K3.out.trans k3); clear k3; have HG3 := Lib.hid (HG.out.keeps K4.out (by simp)); have c1 := HG3.out.row.head.cell 1; simp at c1; have hl := HG3.out.map_.look key HKW.out; rw [H1.out] at hl; simp only [ptrO, Option.isSome] at hl; obtain ⟨g, cap, hv, hR⟩ := HG3.out.row.hr (Nat.lt_of_le_of_lt (Nat.zero_le _) HI.out); have e1 := (hR.ent i HI.out).cell 1; have e2 := (hR.ent i HI.out).cell 2; simp at e1 e2; have f1 := (hR.ent i HI.out).frozen 1; have HR3 := Lib.hid hR; clear hR)
        obtain ⟨w4, hw4⟩ : ∃ w4, w3.setCell ⟨(G.f i).b, 1, none⟩ (.int .i64 at_) = w4 := ⟨_, rfl⟩
        rw [hw4]
        have ht := HR3.out.turn (at_ := at_) HI.out HK.out
        rw [hw4] at ht
        have e4 : w4.cell? ⟨(G.f i).b, 2, none⟩ = some (.int .i64 i) := by rw [← hw4]; simp [go_sem, e2]
        have hF := hfix_any G.S t G.m g cap G.N (turnE G.f i key at_) i w4.drew (ht.1.keeps ((Keeps.refl [] w4).drew) (by simp)) HI.out (HG3.out.heap.turn EnB.le_tr (Nat.le_refl _) HI.out (fun k _ h2 => if_neg h2))
        have HT4 := Lib.hid ht
        clear ht hw4 e1 e2 f1 c1 hl hv
        refine wp_region_held_drew (S := (fun _ : World => True)) (by kernel_rfl) ?_ (fun hHeld => ?_)
        · trivial
        refine wpAnyH_take (i := 0) (oi := { dst := some 38, op := Op.move (Operand.tmp 0), type := 25, pos := "timer.go:93", after := #[], guard := none }) (v := ?_) rfl (by kernel_rfl) (by kernel_rfl) (by kernel_rfl) (fun _ _ _ h => h) (Or.inl ⟨by rfl, ?_⟩) (by assumption) ?_
        rotate_left; · ((intro w hSw; (try dsimp only at hSw); go_simp); try with_reducible rfl)
        try simp only [Act.put, List.setIfInBounds_toArray, List.set_cons_zero, List.set_cons_succ]
        refine wpAnyH_take (i := 1) (oi := { dst := some 39, op := Op.nilCheck (Operand.tmp 38), type := 0, pos := "timer.go:93", after := #[{ on := 0, ground := Ground.data }], guard := none }) (v := ?_) rfl (by kernel_rfl) (by kernel_rfl) (by kernel_rfl) (fun _ _ _ h => h) (Or.inl ⟨by rfl, ?_⟩) (by assumption) ?_
        rotate_left; · ((intro w hSw; (try dsimp only at hSw); go_simp); try with_reducible rfl)
        try simp only [Act.put, List.setIfInBounds_toArray, List.set_cons_zero, List.set_cons_succ]
        refine wpAnyH_take (i := 2) (oi := { dst := some 40, op := Op.fieldAddr 55 (Operand.tmp 39) 0, type := 0, pos := "timer.go:93", after := #[{ on := 1, ground := Ground.data }], guard := none }) (v := ?_) rfl (by kernel_rfl) (by kernel_rfl) (by kernel_rfl) (fun _ _ _ h => h) (Or.inl ⟨by rfl, ?_⟩) (by assumption) ?_
        rotate_left; · ((intro w hSw; (try dsimp only at hSw); go_simp); try with_reducible rfl)
        try simp only [Act.put, List.setIfInBounds_toArray, List.set_cons_zero, List.set_cons_succ]
        refine wpAnyH_take (i := 4) (oi := { dst := some 42, op := Op.move (Operand.tmp 7), type := 60, pos := "timer.go:93", after := #[], guard := none }) (v := ?_) rfl (by kernel_rfl) (by kernel_rfl) (by kernel_rfl) (fun _ _ _ h => h) (Or.inl ⟨by rfl, ?_⟩) (by assumption) ?_
        rotate_left; · ((intro w hSw; (try dsimp only at hSw); go_simp); try with_reducible rfl)
        try simp only [Act.put, List.setIfInBounds_toArray, List.set_cons_zero, List.set_cons_succ]
        refine wpAnyH_take (i := 5) (oi := { dst := some 43, op := Op.nilCheck (Operand.tmp 42), type := 0, pos := "timer.go:93", after := #[{ on := 4, ground := Ground.data }], guard := none }) (v := ?_) rfl (by kernel_rfl) (by kernel_rfl) (by kernel_rfl) (fun _ _ _ h => h) (Or.inl ⟨by rfl, ?_⟩) (by assumption) ?_
        rotate_left; · ((intro w hSw; (try dsimp only at hSw); go_simp); try with_reducible rfl)
        try simp only [Act.put, List.setIfInBounds_toArray, List.set_cons_zero, List.set_cons_succ]
        refine wpAnyH_take (i := 6) (oi := { dst := some 44, op := Op.fieldAddr 62 (Operand.tmp 43) 2, type := 0, pos := "timer.go:93", after := #[{ on := 5, ground := Ground.data }], guard := none }) (v := ?_) rfl (by kernel_rfl) (by kernel_rfl) (by kernel_rfl) (fun _ _ _ h => h) (Or.inl ⟨by rfl, ?_⟩) (by assumption) ?_
        rotate_left; · ((intro w hSw; (try dsimp only at hSw); go_simp); try with_reducible rfl)
        try simp only [Act.put, List.setIfInBounds_toArray, List.set_cons_zero, List.set_cons_succ]
        refine wpAnyH_ready (rs := [3, 7]) (by kernel_rfl) (by simp) ?_
        refine AllReadyH.cons rfl (fun K hK => ?_) ?_
        · go_simp
          refine hK.out _ _ ?_ (fun hHeld => ?_)
          · trivial
          clear hK K
          try simp only [Act.put, List.setIfInBounds_toArray, List.set_cons_zero, List.set_cons_succ]
          refine wpAnyH_ready (rs := [7]) (by kernel_rfl) (by simp) ?_
          refine AllReadyH.cons rfl (fun K hK => ?_) ?_
          · go_simp
            refine hK.out _ _ ?_ (fun hHeld => ?_)
            · trivial
            clear hK K
            try simp only [Act.put, List.setIfInBounds_toArray, List.set_cons_zero, List.set_cons_succ]
            refine wpAnyH_ready (rs := [8]) (by kernel_rfl) (by simp) ?_
            refine AllReadyH.cons rfl (fun K hK => ?_) ?_
            · go_simp
              (refine hF.mono ?_; rintro e w5 ⟨rfl, f5, h5, d5, p5, k5⟩)
              refine hK.out _ _ ?_ (fun hHeld => ?_)
              · trivial
              clear hK K
              try simp only [Act.put, List.setIfInBounds_toArray, List.set_cons_zero, List.set_cons_succ]
              refine wpAnyH_done (by kernel_rfl) ?_ _
              (have K5 := Lib.hid k5; have H5 := Lib.hid h5; have P5 := Lib.hid p5; have D5 := Lib.hid d5; clear k5 h5 p5 d5; go_wp2; go_ret; exact SetPost.turned HG3.out K4.out HI.out HK.out HGD.out HS.out HT4.out.2 H5.out D5.out P5.out K5.out)
            exact AllReadyH.nil
          exact AllReadyH.nil
        refine AllReadyH.cons rfl (fun K hK => ?_) ?_
        · go_simp
          refine hK.out _ _ ?_ (fun hHeld => ?_)
          · trivial
          clear hK K
          try simp only [Act.put, List.setIfInBounds_toArray, List.set_cons_zero, List.set_cons_succ]
          refine wpAnyH_ready (rs := [3]) (by kernel_rfl) (by simp) ?_
          refine AllReadyH.cons rfl (fun K hK => ?_) ?_
          · go_simp
            refine hK.out _ _ ?_ (fun hHeld => ?_)
            · trivial
            clear hK K
            try simp only [Act.put, List.setIfInBounds_toArray, List.set_cons_zero, List.set_cons_succ]
            refine wpAnyH_ready (rs := [8]) (by kernel_rfl) (by simp) ?_
            refine AllReadyH.cons rfl (fun K hK => ?_) ?_
            · go_simp
              (refine hF.mono ?_; rintro e w5 ⟨rfl, f5, h5, d5, p5, k5⟩)
              refine hK.out _ _ ?_ (fun hHeld => ?_)
              · trivial
              clear hK K
              try simp only [Act.put, List.setIfInBounds_toArray, List.set_cons_zero, List.set_cons_succ]
              refine wpAnyH_done (by kernel_rfl) ?_ _
              (have K5 := Lib.hid k5; have H5 := Lib.hid h5; have P5 := Lib.hid p5; have D5 := Lib.hid d5; clear k5 h5 p5 d5; go_wp2; go_ret; exact SetPost.turned HG3.out K4.out HI.out HK.out HGD.out HS.out HT4.out.2 H5.out D5.out P5.out K5.out)
            exact AllReadyH.nil
          exact AllReadyH.nil
        exact AllReadyH.nil
      · have hne : ∀ k ∈ L, k.key ≠ key := findL_none.1 h2
        have HF := Lib.hid h2
        have H1 := Lib.hid h1
        have hlen := HG.out.len
        obtain ⟨a, c, hv⟩ := owns_val HG.out.row.row
        rcases Nat.lt_or_ge G.N 64 with hlt | hge
        · have hs : setA L key at_ = (0, setL L key at_) := by unfold setA; rw [if_pos HGD.out, if_neg (by rintro ⟨_, h⟩; omega)]
          have HS := Lib.hid hs
          have HLT := Lib.hid hlt
          have hni : ¬ (64 : Int) ≤ (G.N : Int) := by omega
          clear hs h1 h2 hne hlen hlt
          go_enter Try.func22, Try.ntmps22
          go_wp2_with (go_at_call 33; refine hA1.mono ?_; rintro e w1 ⟨rfl, k1⟩; clear hA1; have k2 := K0.out.trans k1; clear k1; have K2 := Lib.hid k2; clear k2)
          have hA2 := areIn_any at_ 1000000000000 w1.heap.size true HDD.out (w1.alloc (.cells #[.int .i64 at_] 3)) (by simp [go_sem])
          have K3 : Hid (Keeps [] w (w1.alloc (.cells #[.int .i64 at_] 3))) := Lib.hid (K2.out.alloc _)
          go_wp2_with (first
            | (go_at_call 33; refine hA2.mono ?_; rintro e w3 ⟨rfl, k3⟩; clear hA2; have K4 := Lib.hid (K3.out.trans k3); clear k3; have HG3 := Lib.hid (HG.out.keeps K4.out (by simp)); have c0 := HG3.out.row.head.cell 0; have c1 := HG3.out.row.head.cell 1; rw [hv] at c0; simp at c0 c1; have hnt := World.new_ne w3 ⟨t, 1, none⟩ c1; have ca : (w3.alloc (.cells #[.int .i64 key, .int .i64 at_, .int .i64 0] 62)).cell? ⟨t, 1, none⟩ = some (.map (some G.m)) := cell_alloc_old c1 _; have hl := HG3.out.map_.look key HKW.out; rw [H1.out] at hl; simp only [ptrO, Option.isSome] at hl; have HKB : Hid (Blk (w3.alloc (.cells #[.int .i64 key, .int .i64 at_, .int .i64 0] 62)) w3.heap.size 62 #[.int .i64 key, .int .i64 at_, .int .i64 0]) := Lib.hid (Blk.new _ _ _); have KA : Hid (Keeps [] w3 (w3.alloc (.cells #[.int .i64 key, .int .i64 at_, .int .i64 0] 62))) := Lib.hid ((Keeps.refl [] w3).alloc _); obtain ⟨w5, hrun, hm5, hg5⟩ := (HG3.out.map_.keeps KA.out (by simp)).store key w3.heap.size HKW.out (by omega); replace hm5 := Lib.hid hm5; replace hg5 := Lib.hid hg5; obtain ⟨hP0, K50, HB5⟩ := add_ready HG3.out HKB.out hg5.out HLT.out; have hP := hP0; clear hP0; replace K50 := Lib.hid K50)
            | (go_at_call 28; refine (elen_any _ _ _ _).mono ?_; rintro e w9 ⟨rfl, rfl⟩)
            | (go_at_call 35; refine hP.mono ?_; rintro e w6 ⟨rfl, g, cap, S', f6, h6, d6, p6, s6, s7, k6⟩; clear hP))
          go_ret
          exact SetPost.added HG3.out K4.out HLT.out HF.out HGD.out HS.out h6 d6 p6 s6 k6 hm5.out K50.out
        · have hs : setA L key at_ = (92, L) := by unfold setA; rw [if_pos HGD.out, if_pos ⟨h2, by omega⟩]
          have HS := Lib.hid hs
          have hni : (64 : Int) ≤ (G.N : Int) := by omega
          clear hs h1 h2 hne hlen
          go_enter Try.func22, Try.ntmps22
          go_wp2_with (go_at_call 33; refine hA1.mono ?_; rintro e w1 ⟨rfl, k1⟩; clear hA1; have k2 := K0.out.trans k1; clear k1; have K2 := Lib.hid k2; clear k2)
          have hA2 := areIn_any at_ 1000000000000 w1.heap.size true HDD.out (w1.alloc (.cells #[.int .i64 at_] 3)) (by simp [go_sem])
          have K3 : Hid (Keeps [] w (w1.alloc (.cells #[.int .i64 at_] 3))) := Lib.hid (K2.out.alloc _)
          go_wp2_with (first
            | (go_at_call 33; refine hA2.mono ?_; rintro e w3 ⟨rfl, k3⟩; clear hA2; have K4 := Lib.hid (K3.out.trans k3); clear k3; have HG3 := Lib.hid (HG.out.keeps K4.out (by simp)); have c0 := HG3.out.row.head.cell 0; have c1 := HG3.out.row.head.cell 1; rw [hv] at c0; simp at c0 c1; have hl := HG3.out.map_.look key HKW.out; rw [H1.out] at hl; simp only [ptrO, Option.isSome] at hl)
            | (go_at_call 28; refine (elen_any _ _ _ _).mono ?_; rintro e w9 ⟨rfl, rfl⟩))
          go_ret
          exact SetPost.old HT.out K4.out HS.out
    · have hs : setA L key at_ = (2, L) := by unfold setA; rw [if_neg (by simp [goodK]; omega)]
      have HS := Lib.hid hs
      simp only [g1, and_self, decide_true] at hA1
      have hd : decide (0 ≤ at_ ∧ at_ ≤ 1000000000000) = false := decide_eq_false g2
      have HDD := Lib.hid hd
      clear hs g1 g2 hd
      go_enter Try.func22, Try.ntmps22
      go_wp2_with (go_at_call 33; refine hA1.mono ?_; rintro e w1 ⟨rfl, k1⟩; clear hA1; have k2 := K0.out.trans k1; clear k1; have K2 := Lib.hid k2; clear k2)
      have hA2 := areIn_any at_ 1000000000000 w1.heap.size false HDD.out (w1.alloc (.cells #[.int .i64 at_] 3)) (by simp [go_sem])
      have K3 : Hid (Keeps [] w (w1.alloc (.cells #[.int .i64 at_] 3))) := Lib.hid (K2.out.alloc _)
      go_wp2_with (go_at_call 33; refine hA2.mono ?_; rintro e w3 ⟨rfl, k3⟩; clear hA2)
      go_ret
      exact SetPost.old HT.out (K3.out.trans k3) HS.out
  · have hs : setA L key at_ = (2, L) := by unfold setA; rw [if_neg (by simp [goodK]; omega)]
    have HS := Lib.hid hs
    have hd : decide (0 ≤ key ∧ key ≤ 1000000) = false := decide_eq_false g1
    rw [hd] at hA1
    clear hs g1 hd
    go_enter Try.func22, Try.ntmps22
    go_wp2_with (go_at_call 33; refine hA1.mono ?_; rintro e w1 ⟨rfl, k1⟩; clear hA1)
    go_ret
    exact SetPost.old HT.out (K0.out.trans k1) HS.out
end Go.Proofs.Ytkkajcakgihckaa
