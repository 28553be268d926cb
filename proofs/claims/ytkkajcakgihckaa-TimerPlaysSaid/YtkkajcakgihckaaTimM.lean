/- The walk of a timer's Due. -/
import Derived.Test.YtkkajcakgihckaaTimL
namespace Go.Proofs.Ytkkajcakgihckaa
open Go.RowKit Go.Shelf
attribute [local go_sem] Oper.semAt_some
attribute [local go_sem ↓] Go.wp_at_zero Go.wp_at_succ

theorem tint_info10 : (Try.prog.info? 3).map (fun i => (i.zero, i.size, i.bytes)) = some (some (.int .i64 0), 1, 8) := by kernel_rfl

/-- A new slice of these numbers. -/
def NewI (w : World) (base : Nat) (v : Value) (ys : List Int) : Prop := w.ownsRow base 3 1 v ys.length (ys.map (Value.int .i64))

set_option maxRecDepth 100000 in
theorem tmdue_any (t : Nat) (now : Int) (w : World) :
    Calls Try.prog 32 #[.pointer (some ⟨t, 0, none⟩), .int .i64 now] w fun e w' => e = .returned (.func (.func 41) #[] #[.pointer (some ⟨w.heap.size + 1 + 1, 0, none⟩), .pointer (some ⟨w.heap.size + 1, 0, none⟩), .pointer (some ⟨w.heap.size, 0, none⟩)]) ∧
      ((w.alloc (.cells #[.pointer (some ⟨t, 0, none⟩)] 25)).alloc (.cells #[.int .i64 now] 3)).alloc (.cells #[.func (.func 15) #[.pointer (some ⟨t, 0, none⟩)] #[]] 39) = w' := by
  go_enter Try.func32, Try.ntmps32
  go_wp2
  go_ret
  exact ⟨rfl, rfl⟩

theorem due1_seq (n t nT r q p : Nat) (now : Int) (L : List Ke) (F : List Nat) (hd : r ∉ F ∧ q ∉ F ∧ p ∉ F) (w : World) (h : TiAt w F t nT L) (hr : Blk w r 39 #[.func (.func 15) #[.pointer (some ⟨t, 0, none⟩)] #[]]) (hq : Blk w q 3 #[.int .i64 now]) (hp : Blk w p 25 #[.pointer (some ⟨t, 0, none⟩)]) :
    SeqE Fence.wide n Try.prog 41 #[.pointer (some ⟨r, 0, none⟩), .pointer (some ⟨q, 0, none⟩), .pointer (some ⟨p, 0, none⟩)] encI (keysL (dueL L now)) (r :: q :: p :: F) (fun A => TiAt A F t nT (leftL L now)) w := fun l J W hW _ hJ hY h0 =>
  due1_in n l t nT r q p now L F hd J W hJ hY ⟨h.same (fun k hk => hW k (by simp [hk])), (hW r (by simp)).trans hr, (hW q (by simp)).trans hq, (hW p (by simp)).trans hp, h0, rfl, by simp⟩

/-- What holds behind some rounds of a range that appends each number to a new slice; o holds the slice. -/
structure ApI (F : List Nat) (o base : Nat) (w : World) (pre : List Int) (A : World) : Prop where
  box : ∃ v, Boxed A o 32 v ∧ NewI A base v pre
  k : Keeps F w A

theorem NewI.keeps {S : List Nat} {base : Nat} {v : Value} {ys : List Int} {A A' : World} (h : NewI A base v ys) (hk : Keeps S A A') (hb : ∀ y ∈ S, y < base) : NewI A' base v ys := by
  refine ⟨h.1, ?_⟩
  rcases h.2 with h4 | ⟨g, cap, cur, e, hb', hg, h5⟩
  · exact .inl h4
  · exact .inr ⟨g, cap, cur, e, hb', (hk.block g (Blk.lt (t := 3) (cs := cur) hg) (fun hm => by have := hb g hm; omega)).trans hg, h5⟩
theorem ApI.keeps {F S : List Nat} {o base : Nat} {w : World} {pre : List Int} {A A' : World} (h : ApI F o base w pre A) (hk : Keeps S A A') (ho : o ∉ S) (hb : ∀ y ∈ S, y < base) (hS : ∀ y ∈ S, y ∈ F ∨ w.heap.size ≤ y) : ApI F o base w pre A' := by
  obtain ⟨⟨v, h1, h2⟩, h3⟩ := h
  exact ⟨⟨v, (hk.block o h1.lt ho).trans h1, h2.keeps hk hb⟩, h3.trans' hk hS⟩

theorem Blk.new2 (w : World) (t : TypeId) (cs : Array Value) (b : Nat) (hb : w.heap.size = b) : Blk (w.alloc (.cells cs t)) b t cs := hb ▸ Blk.new w t cs
/-- Of the blocks that a timer may turn those that are there. -/
theorem TiAt.trim {w : World} {F : List Nat} {t n : Nat} {L : List Ke} (h : TiAt w F t n L) : ∃ F', TiAt w F' t n L ∧ (∀ k ∈ F', k ∈ F) ∧ (∀ k ∈ F', k < w.heap.size) ∧ ∀ {w' : World} {n' : Nat} {L' : List Ke}, TiAt w' F' t n' L' → TiAt w' F t n' L' := by
  obtain ⟨G, hG, rfl⟩ := h
  have hin : ∀ k, k ∈ G.S → k < w.heap.size → k ∈ G.S.filter (fun k => decide (k < w.heap.size)) := fun k h1 h2 => List.mem_filter.2 ⟨h1, by simpa using h2⟩
  refine ⟨G.m :: G.S.filter (fun k => decide (k < w.heap.size)), ⟨⟨G.S.filter (fun k => decide (k < w.heap.size)), G.m, G.v, G.N, G.f, G.φ⟩, ⟨⟨hG.row.head, hG.row.row, hG.row.ent, hG.row.max, hin _ hG.row.tS hG.row.head.lt, fun j hj => hin _ (hG.row.own j hj) (hG.row.row.lt j hj).2, fun k hk => hin _ (hG.row.eS k hk) (hG.row.ent k hk).lt⟩,
    hG.heap, hG.perm, hG.good, hG.map_, fun hm => hG.mS (List.mem_filter.1 hm).1, hG.hit, hG.mis⟩, rfl⟩, fun k hk => ?_, fun k hk => ?_, ?_⟩
  · rcases List.mem_cons.1 hk with rfl | hk
    · exact List.mem_cons_self
    · exact List.mem_cons_of_mem _ (List.mem_filter.1 hk).1
  · rcases List.mem_cons.1 hk with rfl | hk
    · exact hG.map_.lt
    · simpa using (List.mem_filter.1 hk).2
  · rintro w' n' L' ⟨G2, h2, hF⟩
    unfold TiG.F at hF
    injection hF with e1 e2
    have hsub : ∀ k ∈ G2.S, k ∈ G.S := fun k hk => (List.mem_filter.1 (e2 ▸ hk)).1
    refine ⟨⟨G.S, G2.m, G2.v, G2.N, G2.f, G2.φ⟩, ⟨⟨h2.row.head, h2.row.row, h2.row.ent, h2.row.max, hsub _ h2.row.tS, fun j hj => hsub _ (h2.row.own j hj), fun k hk => hsub _ (h2.row.eS k hk)⟩, h2.heap, h2.perm, h2.good, h2.map_, ?_, h2.hit, h2.mis⟩, ?_⟩
    · show G2.m ∉ G.S
      rw [e1]; exact hG.mS
    · show G2.m :: G.S = G.m :: G.S
      rw [e1]
theorem NewI.to {w : World} {a b : Nat} {v : Value} {ys : List Int} (h : NewI w a v ys) (hb : b ≤ a) : NewI w b v ys := by
  refine ⟨h.1, ?_⟩
  rcases h.2 with h1 | ⟨g, cap, cur, e, hb', h5⟩
  · exact .inl h1
  · exact .inr ⟨g, cap, cur, e, by omega, h5⟩

set_option maxRecDepth 100000 in
set_option maxHeartbeats 2000000 in
theorem tmDue_low (F : List Nat) (t nT : Nat) (L : List Ke) (now : Int) (ys : List Int) (hys : keysL (dueL L now) = ys) (w : World) (h : TiAt w F t nT L) (hFl : ∀ k ∈ F, k < w.heap.size) :
    Calls Try.prog 21 #[.pointer (some ⟨t, 0, none⟩), .int .i64 now] w fun e w' => (∃ v, e = .returned v ∧ NewI w' w.heap.size v ys) ∧ TiAt w' F t nT (leftL L now) ∧ Keeps F w w' := by
  refine (callsIn_wide (n := 9)).1 ?_
  have HYS := Lib.hid hys
  have HH := Lib.hid h
  clear hys h
  refine callsIn_of_wp_marks Try.func21 rfl trivial ?_ rfl
  simp only [Try.ntmps21, List.size_toArray, List.length_cons, List.length_nil, Nat.reduceAdd, Nat.reduceSub, Array.replicate_succ, Array.replicate_zero, List.push_toArray, List.append_toArray, List.nil_append, List.cons_append]
  gi_wp2_with (fail)
  refine ⟨trivial, (callsIn_wide.2 (tmdue_any _ _ _)).mono ?_⟩
  rintro e w1 ⟨rfl, rfl⟩
  gi_wp2_with (fail)
  obtain ⟨i0, hi, hz0, hz1, hz2⟩ := info_parts tint_info10
  obtain ⟨W0, hW0⟩ : ∃ W0, ((((w.alloc (.cells #[.slice none 0 0] 32)).alloc (.cells #[.pointer (some ⟨t, 0, none⟩)] 25)).alloc (.cells #[.int .i64 now] 3)).alloc (.cells #[.func (.func 15) #[.pointer (some ⟨t, 0, none⟩)] #[]] 39)) = W0 := ⟨_, rfl⟩
  have hs0 : W0.heap.size = w.heap.size + 4 := by rw [← hW0]; simp
  have hB0 : Below w.heap.size w W0 := by
    rw [← hW0]; exact ((((Below.refl _ w).alloc (Nat.le_refl _) _).alloc (by simp) _).alloc (by simp; omega) _).alloc (by simp; omega) _
  have hbox : Boxed W0 w.heap.size 32 (.slice none 0 0) := by
    rw [← hW0]; exact (((Boxed.new w 32 _).alloc _).alloc _).alloc _
  have bp : Blk W0 (w.heap.size + 1) 25 #[.pointer (some ⟨t, 0, none⟩)] := by rw [← hW0]; exact ((Blk.new2 _ _ _ _ (by simp)).alloc _).alloc _
  have bq : Blk W0 (w.heap.size + 1 + 1) 3 #[.int .i64 now] := by rw [← hW0]; exact (Blk.new2 _ _ _ _ (by simp)).alloc _
  have br : Blk W0 (w.heap.size + 1 + 1 + 1) 39 #[.func (.func 15) #[.pointer (some ⟨t, 0, none⟩)] #[]] := by rw [← hW0]; exact Blk.new2 _ _ _ _ (by simp)
  have hK0 : Keeps F w W0 := Keeps.of_below hB0 F
  have hT0 : TiAt W0 F t nT L := HH.out.keeps (Keeps.of_below hB0 []) (by simp)
  have hseq := due1_seq 8 t nT (w.heap.size + 1 + 1 + 1) (w.heap.size + 1 + 1) (w.heap.size + 1) now L F ⟨fun hm => by have := hFl _ hm; omega, fun hm => by have := hFl _ hm; omega, fun hm => by have := hFl _ hm; omega⟩ W0 hT0 br bq bp
  have hyl : ys.length ≤ 64 := by
    rw [← HYS.out]
    have h1 : (dueL L now).length ≤ L.length := (List.takeWhile_sublist _).length_le
    have h2 := HH.out.good.le
    unfold keysL
    rw [List.length_map]
    omega
  rw [HYS.out] at hseq
  rw [hW0]
  have hI0 : ApI F w.heap.size (W0.heap.size + 2) w [] W0 := ⟨⟨_, hbox, World.ownsRow_nil _ _ _ _⟩, hK0⟩
  clear hW0 hT0 br bq bp hbox
  refine wpIn_rangeE rfl (by omega) (gf := 41) (lb := #[.pointer (some ⟨w.heap.size + 1 + 1 + 1, 0, none⟩), .pointer (some ⟨w.heap.size + 1 + 1, 0, none⟩), .pointer (some ⟨w.heap.size + 1, 0, none⟩)]) rfl trivial (enters_of Try.func41 (by kernel_rfl) rfl)
    hseq (fun k hk => by
      simp only [List.mem_cons] at hk
      rcases hk with rfl | rfl | rfl | hk
      · omega
      · omega
      · omega
      · have := hFl k hk; omega) (fun _ => rfl)
    (fun pre A => ApI F w.heap.size (W0.heap.size + 2) w pre A)
    (fun s A A' h hk => h.keeps hk (fun hm => by
      simp only [List.mem_cons] at hm
      rcases hm with h1 | h1 | h1 | h1 | h1 | h1
      · omega
      · omega
      · omega
      · omega
      · omega
      · have := hFl _ h1; omega) (fun y hy => by
      simp only [List.mem_cons] at hy
      rcases hy with rfl | rfl | rfl | rfl | rfl | h1
      · omega
      · omega
      · omega
      · omega
      · omega
      · have := hFl _ h1; omega) (fun y hy => by
      simp only [List.mem_cons] at hy
      rcases hy with rfl | rfl | rfl | rfl | rfl | h1
      · right; omega
      · right; omega
      · right; omega
      · right; omega
      · right; omega
      · exact .inl h1))
    (fun A A' h hb => h.same (fun k hk => hb.block k (by have := hFl k hk; omega))) hI0
    (fun x => { tmps := #[.pointer (some ⟨t, 0, none⟩), .int .i64 now, undef, undef, .slice none 0 0, .pointer (some ⟨w.heap.size, 0, none⟩), .int .i64 x, .pointer (some ⟨t, 0, none⟩), .int .i64 now, .func (.func 41) #[] #[.pointer (some ⟨w.heap.size + 1 + 1 + 1, 0, none⟩), .pointer (some ⟨w.heap.size + 1 + 1, 0, none⟩), .pointer (some ⟨w.heap.size + 1, 0, none⟩)], .int .i64 x, undef, undef, undef, undef, undef], defers := [] }) ?assign ?body ?done
  case assign =>
    intro l x W K hK
    unfold encI
    gi_wp2
    exact hK
  case body =>
    rintro l pre x W ⟨⟨v, hv, hrow⟩, hK⟩ hpre hsz
    have hc := hv.cell
    have hpl : pre.length < 64 := by
      obtain ⟨r, hr⟩ := hpre
      have := congrArg List.length hr
      simp at this
      omega
    have hlt' := hv.lt
    have HR := Lib.hid hrow
    have HK := Lib.hid hK
    clear hrow hK hpre hseq hI0
    gi_wp2_with (gi_at_builtin; refine wpListIn_append_own _ rfl _ _ 32 rfl (W0.heap.size + 2) 3 i0 (.int .i64 0) 1 8 Try.underlying32 hi hz0 hz1 hz2 rfl (by decide) _ _ _ rfl (World.ownsRow.alloc HR.out _) ⟨W.heap.size, 0, none⟩ 1 1 [.int .i64 x] rfl rfl (cell_one_new _ _ _) (by simp [Value.oneCell']) (by unfold maxLen; omega) (by omega) (by simp; omega) ?_; intro v' w1 hown' hgrow _; obtain ⟨g', cap', rfl⟩ := ownsRow_succ hown'; obtain ⟨hv1, hv2, hr2, hk2, hb2, hs2⟩ := appended_far hv HR.out (by omega) (by omega) hown' hgrow; have hc1 := hv1.cell; have hf1 := hv1.frozen)
    refine ⟨hk2.size, fun k hk => hs2 k ?_ ?_, ⟨⟨_, hv2, ?_⟩, ?_⟩⟩
    · simp only [List.mem_cons] at hk
      rcases hk with rfl | rfl | rfl | rfl | rfl | h1
      · omega
      · omega
      · omega
      · omega
      · omega
      · have := hFl _ h1; omega
    · simp only [List.mem_cons] at hk
      rcases hk with rfl | rfl | rfl | rfl | rfl | h1
      · omega
      · omega
      · omega
      · omega
      · omega
      · have := hFl _ h1; omega
    · unfold NewI; simpa using hr2
    · exact ⟨hb2.os.trans HK.out.os, hb2.tape.trans HK.out.tape, hb2.output.trans HK.out.output, Nat.le_trans HK.out.size hk2.size, fun k hk hn => (hb2.block k hk).trans (HK.out.block k hk hn)⟩
  case done =>
    rintro W ⟨⟨v, hv, hrow⟩, hK⟩ hT hsz hD
    have hc := hv.cell
    have HR := Lib.hid hrow
    have HK := Lib.hid hK
    have HT := Lib.hid hT
    clear hrow hK hT hseq hI0 hv
    gi_wp2
    refine ⟨by simp, .inl ⟨_, _, rfl, run_takeDeferred hD, ?_⟩⟩
    have hkp : Keeps [W0.heap.size] W (W.putObj W0.heap.size (.deferred none)) := keeps_putObj W _ (by simp)
    refine ⟨_, results_tmp rfl _ _ _, ⟨v, rfl, ?_⟩, HT.out.keeps hkp (fun k hk hm => by simp only [List.mem_singleton] at hm; have := hFl k hk; omega), HK.out.trans' hkp (fun k hk => by simp only [List.mem_singleton] at hk; right; omega)⟩
    exact (NewI.keeps HR.out hkp (by simp)).to (by omega)

theorem tmDue_any (F : List Nat) (t nT : Nat) (L : List Ke) (now : Int) (ys : List Int) (hys : keysL (dueL L now) = ys) (w : World) (h : TiAt w F t nT L) :
    Calls Try.prog 21 #[.pointer (some ⟨t, 0, none⟩), .int .i64 now] w fun e w' => (∃ v, e = .returned v ∧ NewI w' w.heap.size v ys) ∧ TiAt w' F t nT (leftL L now) ∧ Keeps F w w' := by
  obtain ⟨F0, h0, hF0, hFl, hback⟩ := h.trim
  exact (tmDue_low F0 t nT L now ys hys w h0 hFl).mono fun e w' h => ⟨h.1, hback h.2.1, h.2.2.mono hF0⟩
end Go.Proofs.Ytkkajcakgihckaa
