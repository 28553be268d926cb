/- A timer's heap in memory: the walks of its Push and Pop, and of heap.Fix, Push, Pop, Remove. -/
import Derived.Test.YtkkajcakgihckaaTimC
import Derived.Deep.AppendLies
namespace Go.Proofs.Ytkkajcakgihckaa
open Go.RowKit
attribute [local go_sem] Oper.semAt_some
attribute [local go_sem ↓] Go.wp_at_zero Go.wp_at_succ

theorem tpEntry_info : (Try.prog.info? 60).map (fun i => (i.zero, i.size, i.bytes)) = some (some (.pointer none), 1, 8) := by kernel_rfl

/-- The heap's row in memory, that may be the nil slice. -/
structure HN (w : World) (S : List Nat) (t m : Nat) (v : Value) (N : Nat) (f : Nat → EnB) : Prop where
  head : Blk w t 55 #[v, .map (some m)]
  row : w.ownsRow 0 60 1 v N ((lst f N).map EnB.ptr)
  ent : ∀ k, k < N → Blk w (f k).b 62 #[.int .i64 (f k).k.key, .int .i64 (f k).k.at_, .int .i64 k]
  max : N ≤ 64
  tS : t ∈ S
  own : ∀ j, v.ownBlock = some j → j ∈ S
  eS : ∀ k, k < N → (f k).b ∈ S

section
variable {w w' : World} {S S' : List Nat} {t m g cap N : Nat} {v : Value} {f : Nat → EnB}
theorem owns_keeps {e : TypeId} {n k : Nat} {xs : List Value} (h : w.ownsRow 0 e n v k xs) (hk : Keeps S w w') (hn : ∀ j, v.ownBlock = some j → j ∉ S) : w'.ownsRow 0 e n v k xs := by
  refine ⟨h.1, ?_⟩
  rcases h.2 with h1 | ⟨g, cap, cur, rfl, hb, hg, h3⟩
  · exact .inl h1
  · exact .inr ⟨g, cap, cur, rfl, hb, (hk.block g (Blk.lt (t := e) (cs := cur) hg) (hn g rfl)).trans hg, h3⟩
theorem owns_val {e : TypeId} {n k : Nat} {xs : List Value} (h : w.ownsRow 0 e n v k xs) : ∃ a c, v = .slice a k c := by
  rcases h.2 with ⟨rfl, rfl⟩ | ⟨g, cap, cur, rfl, _⟩
  · exact ⟨_, _, rfl⟩
  · exact ⟨_, _, rfl⟩
theorem HN.keeps (h : HN w S t m v N f) (hk : Keeps S' w w') (hn : ∀ k ∈ S, k ∉ S') : HN w' S t m v N f :=
  ⟨h.head.keeps hk (hn _ h.tS), owns_keeps h.row hk (fun j hj => hn _ (h.own j hj)), fun k hk' => (h.ent k hk').keeps hk (hn _ (h.eS k hk')), h.max, h.tS, h.own, h.eS⟩
theorem HN.hr (h : HN w S t m v N f) (hN : 0 < N) : ∃ g cap, v = .slice (some ⟨g, 0, none⟩) N cap ∧ HR w S t m g cap N f := by
  rcases h.row.2 with ⟨_, h0⟩ | ⟨g, cap, cur, rfl, _, hg, hn, hM, hs, ht⟩
  · omega
  · refine ⟨g, cap, rfl, h.head, ⟨cur, hg, by simpa using hs, fun k hk => ?_⟩, h.ent, hn, hM, h.max, h.tS, h.own g rfl, h.eS⟩
    have h1 : ((lst f N).map EnB.ptr)[k]? = some (f k).ptr := by rw [List.getElem?_map, lst_get f hk]; rfl
    rw [← ht, List.getElem?_take, if_pos (by omega)] at h1
    simpa using h1
theorem HR.hn (h : HR w S t m g cap N f) : HN w S t m (.slice (some ⟨g, 0, none⟩) N cap) N f := by
  obtain ⟨cur, h1, h2, h3⟩ := h.row
  refine ⟨h.head, ⟨by simp [lst_length], .inr ⟨g, cap, cur, rfl, Nat.zero_le _, h1, h.le, h.cM, by simpa using h2, ?_⟩⟩, h.ent, h.max, h.tS, fun j hj => ?_, h.eS⟩
  · apply List.ext_getElem?
    intro k
    rw [List.getElem?_take]
    by_cases hk : k < N
    · rw [if_pos (by omega), List.getElem?_map, lst_get f hk]
      simpa using h3 k hk
    · rw [if_neg (by omega), List.getElem?_eq_none (by simp [lst_length]; omega)]
  · obtain rfl : g = j := by simpa [Value.ownBlock] using hj
    exact h.gS
end

theorem as_entry (v : Value) (w : World) : (Instr.typeAssert (.iface 60 v) 20 60 true).run Try.prog w = .ok (.tuple #[v, .bool true]) w := by kernel_rfl
theorem heap_set_new (w : World) (p : Addr) (u : Value) (cs : Array Value) (t : TypeId) : ((w.setCell p u).alloc (.cells cs t)).heap[w.heap.size]? = some (.cells cs t (0, 0)) := by
  have := heap_alloc_new (w.setCell p u) (.cells cs t)
  rwa [show (w.setCell p u).heap.size = w.heap.size by simp [World.setCell]] at this
/-- One more entry. -/
def addE (f : Nat → EnB) (N : Nat) (x : EnB) : Nat → EnB := fun k => if k = N then x else f k
theorem addE_lst (f : Nat → EnB) (N : Nat) (x : EnB) : lst (addE f N x) (N + 1) = lst f N ++ [x] := by
  rw [lst_succ, lst_eq (f := f) (fun k hk => by unfold addE; rw [if_neg (by omega)])]
  simp [addE]

theorem HN.own_ne {w : World} {S : List Nat} {t m N : Nat} {v : Value} {f : Nat → EnB} (h : HN w S t m v N f) {b : Nat} {ty : TypeId} {cs : Array Value} (hb : Blk w b ty cs) (hne : ty ≠ 60) : v.ownBlock ≠ some b := fun e => by
  rcases h.row.2 with ⟨rfl, _⟩ | ⟨g, cap, cur, rfl, _, hg, _⟩
  · simp [Value.ownBlock] at e
  · obtain rfl : g = b := by simpa [Value.ownBlock] using e
    exact (hb.ne_ (show Blk w g 60 cur from hg) hne) rfl

theorem push_t {S : List Nat} {t m N : Nat} {v : Value} {f : Nat → EnB} {b : Nat} {x : Ke} {i0 : Value} {w w1 : World} (h : HN w S t m v N f) (hb : Blk w b 62 #[.int .i64 x.key, .int .i64 x.at_, i0])
    (hgrow : ((w.setCell ⟨b, 2, none⟩ (.int .i64 N)).alloc (.cells #[.pointer (some ⟨b, 0, none⟩)] 60)).grownBy w1 v.ownBlock) : w1.cell? ⟨t, 0, none⟩ = some v ∧ w1.frozen? ⟨t, 0, none⟩ = false := by
  have hbt : t ≠ b := fun e => by subst e; exact (hb.ne_ h.head (by decide)) rfl
  have hB : Blk w1 t 55 #[v, .map (some m)] := (hgrow.block _ ((h.head.far (p := ⟨b, 2, none⟩) hbt _).alloc _).lt (fun e => h.own_ne h.head (by decide) e.symm)).trans ((h.head.far (p := ⟨b, 2, none⟩) hbt _).alloc _)
  exact ⟨hB.cell 0, hB.frozen 0⟩
theorem push_end {S : List Nat} {t m N : Nat} {v : Value} {f : Nat → EnB} {b : Nat} {x : Ke} {i0 : Value} {w W2 w1 : World} (h : HN w S t m v N f) (hN : N < 64) (hb : Blk w b 62 #[.int .i64 x.key, .int .i64 x.at_, i0]) (hbS : b ∈ S) (hbe : ∀ k, k < N → (f k).b ≠ b)
    (hW2 : W2 = (w.setCell ⟨b, 2, none⟩ (.int .i64 N)).alloc (.cells #[.pointer (some ⟨b, 0, none⟩)] 60)) {g2 cap2 : Nat} (hown1 : w1.ownsRow 0 60 1 (.slice (some ⟨g2, 0, none⟩) (N + 1) cap2) (N + 1) ((lst f N).map EnB.ptr ++ [.pointer (some ⟨b, 0, none⟩)]))
    (hgrow : W2.grownBy w1 v.ownBlock) (hat : v.ownBlock = some g2 ∨ g2 = w.heap.size + 1) :
    HR (w1.setCell ⟨t, 0, none⟩ (.slice (some ⟨g2, 0, none⟩) (N + 1) cap2)) (g2 :: S) t m g2 cap2 (N + 1) (addE f N ⟨b, x⟩) ∧ (∀ y ∈ g2 :: S, y ∈ S ∨ w.heap.size ≤ y) ∧ Keeps S w (w1.setCell ⟨t, 0, none⟩ (.slice (some ⟨g2, 0, none⟩) (N + 1) cap2)) := by
  have hbt : b ≠ t := fun e => by subst e; exact (hb.ne_ h.head (by decide)) rfl
  have k1 : Keeps S w W2 := hW2 ▸ ((Keeps.refl S w).setCell (p := ⟨b, 2, none⟩) (.inl hbS) _).alloc _
  have hsz : w.heap.size ≤ W2.heap.size := k1.size
  have k2 : Keeps S w w1 := k1.grown hgrow (fun k hk => .inl (h.own k hk))
  have step : ∀ {y : Nat} {ty : TypeId} {cs : Array Value}, Blk W2 y ty cs → v.ownBlock ≠ some y → Blk w1 y ty cs := fun hB hne => (hgrow.block _ hB.lt (fun e => hne e.symm)).trans hB
  have hg2t : g2 ≠ t := fun e => by
    rcases hat with h1 | h1
    · exact h.own_ne h.head (by decide) (e ▸ h1)
    · have := h.head.lt; omega
  have hg2b : ∀ {y : Nat} {cs : Array Value}, Blk w y 62 cs → y ≠ t := fun hB e => by subst e; exact (hB.ne_ h.head (by decide)) rfl
  have ht2 : Blk W2 t 55 #[v, .map (some m)] := hW2 ▸ (h.head.far (p := ⟨b, 2, none⟩) hbt.symm _).alloc _
  refine ⟨⟨?_, ?_, fun k hk => ?_, ?_, ?_, by omega, List.mem_cons_of_mem _ h.tS, List.mem_cons_self, fun k hk => ?_⟩, fun y hy => ?_, k2.setCell (p := ⟨t, 0, none⟩) (.inl h.tS) _⟩
  · exact (step ht2 (h.own_ne h.head (by decide))).set_ 0 _
  · rcases hown1.2 with ⟨h0, _⟩ | ⟨g, cap, cur, he, _, hg, hn, hM, hs, ht⟩
    · cases h0
    · injection he with e1 e2 e3
      injection e1 with e1
      injection e1 with e1
      subst e1 e3
      refine ⟨cur, (show Blk w1 g2 60 cur from hg).far (p := ⟨t, 0, none⟩) hg2t _, by simpa using hs, fun k hk => ?_⟩
      have h1 : ((lst (addE f N ⟨b, x⟩) (N + 1)).map EnB.ptr)[k]? = some (addE f N ⟨b, x⟩ k).ptr := by rw [List.getElem?_map, lst_get _ hk]; rfl
      have h2 : (lst (addE f N ⟨b, x⟩) (N + 1)).map EnB.ptr = (lst f N).map EnB.ptr ++ [.pointer (some ⟨b, 0, none⟩)] := by rw [addE_lst, List.map_append]; rfl
      rw [h2, ← ht, List.getElem?_take, if_pos (by omega)] at h1
      simpa using h1
  · by_cases e : k = N
    · subst e
      have : addE f k ⟨b, x⟩ k = ⟨b, x⟩ := if_pos rfl
      rw [this]
      have hB : Blk W2 b 62 #[.int .i64 x.key, .int .i64 x.at_, .int .i64 k] := hW2 ▸ (hb.set_ 2 (.int .i64 k)).alloc _
      exact (step hB (h.own_ne hb (by decide))).far (p := ⟨t, 0, none⟩) hbt _
    · have hkN : k < N := by omega
      have : addE f N ⟨b, x⟩ k = f k := if_neg e
      rw [this]
      have hB : Blk W2 (f k).b 62 #[.int .i64 (f k).k.key, .int .i64 (f k).k.at_, .int .i64 k] := hW2 ▸ ((h.ent k hkN).far (p := ⟨b, 2, none⟩) (hbe k hkN) _).alloc _
      exact (step hB (h.own_ne (h.ent k hkN) (by decide))).far (p := ⟨t, 0, none⟩) (hg2b (h.ent k hkN)) _
  · rcases hown1.2 with ⟨h0, _⟩ | ⟨g, cap, cur, he, _, hg, hn, hM, hs, ht⟩
    · cases h0
    · injection he with e1 e2 e3; omega
  · rcases hown1.2 with ⟨h0, _⟩ | ⟨g, cap, cur, he, _, hg, hn, hM, hs, ht⟩
    · cases h0
    · injection he with e1 e2 e3; omega
  · by_cases e : k = N
    · have : addE f N ⟨b, x⟩ k = ⟨b, x⟩ := if_pos e
      rw [this]; exact List.mem_cons_of_mem _ hbS
    · have : addE f N ⟨b, x⟩ k = f k := if_neg e
      rw [this]; exact List.mem_cons_of_mem _ (h.eS k (by omega))
  · rcases List.mem_cons.1 hy with rfl | hy
    · rcases hat with h1 | h1
      · exact .inl (h.own _ h1)
      · exact .inr (by omega)
    · exact .inl hy

set_option maxRecDepth 100000 in
set_option maxHeartbeats 1000000 in
theorem epush_any (S : List Nat) (t m N : Nat) (v : Value) (f : Nat → EnB) (b : Nat) (x : Ke) (i0 : Value) (w : World) (h : HN w S t m v N f) (hN : N < 64) (hb : Blk w b 62 #[.int .i64 x.key, .int .i64 x.at_, i0]) (hbS : b ∈ S) (hbe : ∀ k, k < N → (f k).b ≠ b) :
    Calls Try.prog 85 #[.pointer (some ⟨t, 0, none⟩), .iface 60 (.pointer (some ⟨b, 0, none⟩))] w fun e w' => e = .returned (.tuple #[]) ∧ ∃ g cap S', HR w' S' t m g cap (N + 1) (addE f N ⟨b, x⟩) ∧ (∀ y ∈ S', y ∈ S ∨ w.heap.size ≤ y) ∧ (∀ y ∈ S, y ∈ S') ∧ Keeps S w w' := by
  obtain ⟨ei, hi, hz0, hz1, hz2⟩ := info_parts tpEntry_info
  obtain ⟨a, c, rfl⟩ := owns_val h.row
  have c0 := h.head.cell 0
  have f0 := h.head.frozen 0
  have b2 := hb.cell 2
  have g2 := hb.frozen 2
  have hbt : b ≠ t := fun e => by subst e; exact (hb.ne_ h.head (by decide)) rfl
  have htb : t ≠ b := fun e => hbt e.symm
  simp at c0 b2
  have HH := Lib.hid h
  have HB := Lib.hid hb
  clear h hb
  have hN2 : (N : Int) < 64 := by omega
  have ta := as_entry
  have HR2 : Hid (((w.setCell ⟨b, 2, none⟩ (.int .i64 N)).alloc (.cells #[.pointer (some ⟨b, 0, none⟩)] 60)).ownsRow 0 60 1 (.slice a N c) N ((lst f N).map EnB.ptr)) :=
    Lib.hid (owns_keeps HH.out.row (((Keeps.refl [b] w).setCell (p := ⟨b, 2, none⟩) (.inl (by simp)) _).alloc _) (fun j hj e => by
      simp only [List.mem_singleton] at e
      exact HH.out.own_ne HB.out (by decide) (e ▸ hj)))
  go_enter Try.func85, Try.ntmps85
  go_wp2_with (at_builtin; go_loud (refine wpList_append_lies _ rfl _ _ _ (by rfl) 0 60 ei _ 1 8 Try.underlying53 hi hz0 hz1 hz2 rfl (by omega) (.slice a N c) N _ (by rfl) HR2.out ⟨w.heap.size, 0, none⟩ 1 1 _ (by rfl) (by rfl) (World.news_of_block (heap_set_new w ⟨b, 2, none⟩ (.int .i64 N) _ _)) (by simp [Value.oneCell']) (by omega) (by unfold maxLen; omega) (by omega) (by simp) (w.heap.size + 1) (by simp [World.setCell]) ?_; intro g2 cap2 w1 hown1 hgrow hat hlt2; obtain ⟨ct, ft⟩ := push_t HH.out HB.out hgrow))
  go_end0
  have he := push_end HH.out hN HB.out hbS hbe rfl hown1 hgrow hat
  exact ⟨rfl, g2, cap2, g2 :: S, he.1, he.2.1, fun y hy => List.mem_cons_of_mem _ hy, he.2.2⟩

set_option maxRecDepth 100000 in
set_option maxHeartbeats 1000000 in
theorem epop_any (S : List Nat) (t m g cap n : Nat) (f : Nat → EnB) (w : World) (h : HR w S t m g cap (n + 1) f) :
    Calls Try.prog 84 #[.pointer (some ⟨t, 0, none⟩)] w fun e w' => e = .returned (.iface 60 (f n).ptr) ∧ HR w' S t m g cap n f ∧ Keeps [t] w w' ∧ (f n).b ≠ t ∧ Blk w' (f n).b 62 #[.int .i64 (f n).k.key, .int .i64 (f n).k.at_, .int .i64 n] := by
  have c0 := h.c0
  have f0 := h.head.frozen 0
  have cn := h.cr (i := n) (by omega)
  have hte := h.te (i := n) (by omega)
  have hle := h.le
  have hmx := h.max
  have hcm := h.cM
  unfold maxLen at hcm
  have HH := Lib.hid h
  have hw : wrap64 (((n + 1 : Nat) : Int) - 1) = (n : Int) := by rw [show (((n + 1 : Nat) : Int) - 1) = (n : Int) by omega]; exact IntWalk.wrap64_in _ ⟨by omega, by omega⟩
  have i1 : (n : Int) < ((n + 1 : Nat) : Int) := by omega
  have i2 : (n : Int) ≤ (cap : Int) := by omega
  have e0 : EnB.ptr (f n) = .pointer (some ⟨(f n).b, 0, none⟩) := rfl
  clear h
  rw [e0]
  go_enter Try.func84, Try.ntmps84
  go_wp2
  go_ret
  obtain ⟨cur, h1, h2, h3⟩ := HH.out.row
  have hH := HH.out
  exact ⟨rfl, ⟨hH.head.set_ 0 _, ⟨cur, h1.far (p := ⟨t, 0, none⟩) hH.tg.symm _, h2, fun k hk => h3 k (by omega)⟩, fun k hk => (hH.ent k (by omega)).far (p := ⟨t, 0, none⟩) (hH.te (by omega)).symm _, by omega, hH.cM, by omega, hH.tS, hH.gS, fun k hk => hH.eS k (by omega)⟩,
    (Keeps.refl [t] w).setCell (p := ⟨t, 0, none⟩) (.inl (by simp)) _, hte.symm, (hH.ent n (by omega)).far (p := ⟨t, 0, none⟩) hte.symm _⟩
end Go.Proofs.Ytkkajcakgihckaa
