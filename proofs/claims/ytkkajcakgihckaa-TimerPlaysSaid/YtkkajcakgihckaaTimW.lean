/- The walks of slices.SortedFunc at a timer's entries, and of Keys. -/
import Derived.Test.YtkkajcakgihckaaTimV
import Derived.Deep.AppendLies
namespace Go.Proofs.Ytkkajcakgihckaa
open Go.RowKit Go.Shelf
attribute [local go_sem] Oper.semAt_some
attribute [local go_sem ↓] Go.wp_at_zero Go.wp_at_succ

/-- A slice of pointers to these keys' entries. -/
def PtrsOf (w : World) (base : Nat) (v : Value) (L : List Ke) : Prop :=
  ∃ (a : Option Addr) (c g : Nat) (b : Nat → Nat), v = .slice a L.length c ∧ (0 < L.length → a = some ⟨g, 0, none⟩) ∧ (0 < L.length → base ≤ g) ∧
    ∀ k (h : k < L.length), w.cell? ⟨g, k, none⟩ = some (.pointer (some ⟨b k, 0, none⟩)) ∧ b k < base ∧ w.cell? ⟨b k, 0, none⟩ = some (.int .i64 (L[k]).key)

theorem sorted_end {w w1 w2 : World} {t n g cap N : Nat} {L : List Ke} {G : TiG} {f' : Nat → EnB} (h : TiA w t n L G) (hN : G.N = N + 1) (k1 : Keeps [] w w1) (k2 : Keeps [g] w1 w2) (hg : w.heap.size ≤ g)
    (hr : ∀ k, k < N + 1 → w2.cell? ⟨g, k, none⟩ = some (f' k).ptr) (hp : (lst f' (N + 1)).Perm (lst G.f (N + 1))) (hs : ∀ i j, i < j → j < N + 1 → ¬ (f' j).k.ahead (f' i).k) : PtrsOf w2 w.heap.size (.slice (some ⟨g, 0, none⟩) (N + 1) cap) L ∧ Keeps [] w w2 := by
  have hlen := h.len
  have k3 : Keeps [] w w2 := k1.trans' k2 (fun y hy => by simp only [List.mem_singleton] at hy; right; omega)
  have hpl : ((lst f' (N + 1)).map EnB.k).Perm L := by have := h.perm; rw [hN] at this; exact (hp.map EnB.k).trans this
  have ho : ((lst f' (N + 1)).map EnB.k).Pairwise fun a b => a.key ≠ b.key := (hpl.pairwise_iff (fun {a b} h => fun e => h e.symm)).2 h.good.ok.one
  have hso : ((lst f' (N + 1)).map EnB.k).Pairwise Ke.ahead := by
    rw [List.pairwise_iff_getElem] at ho ⊢
    intro i j hi hj hij
    have h1 := ho i j hi hj hij
    simp only [List.length_map, lst_length] at hi hj
    simp only [lst, List.getElem_map, List.getElem_range] at h1 ⊢
    exact (Ke.ahead_or h1).resolve_right (hs i j hij hj)
  have hL := sorted_is h.good.ok hpl hso
  have hb : ∀ k, k < N + 1 → ∃ j, j < N + 1 ∧ G.f j = f' k := fun k hk => mem_lst.1 (hp.subset (mem_lst.2 ⟨k, hk, rfl⟩))
  refine ⟨⟨_, cap, g, fun k => (f' k).b, by rw [← hlen, hN], fun _ => rfl, fun _ => hg, fun k hk => ?_⟩, k3⟩
  have hk2 : k < N + 1 := by omega
  obtain ⟨j, hj, e⟩ := hb k hk2
  have hB := h.row.ent j (by omega)
  rw [e] at hB
  refine ⟨hr k hk2, hB.lt, ?_⟩
  have h1 : (w2.cell? ⟨(f' k).b, 0, none⟩) = some (.int .i64 (f' k).k.key) := (k3.cell (p := ⟨(f' k).b, 0, none⟩) hB.lt (by simp)).trans (hB.cell 0)
  have h2 : L[k] = (f' k).k := by
    have h3 : ((lst f' (N + 1)).map EnB.k)[k]? = L[k]? := by rw [hL]
    rw [List.getElem?_map, lst_get f' hk2, List.getElem?_eq_getElem hk] at h3
    simpa using h3.symm
  rw [h2]; exact h1

set_option maxRecDepth 100000 in
set_option maxHeartbeats 1000000 in
theorem sorted_any (q t n : Nat) (L : List Ke) (G : TiG) (w : World) (h : TiA w t n L G) (hq : w.cell? ⟨q, 0, none⟩ = some G.v) :
    Calls Try.prog 29 #[.func (.func 39) #[] #[.pointer (some ⟨q, 0, none⟩)], .func (.func 31) #[] #[]] w fun e w' => (∃ v, e = .returned v ∧ PtrsOf w' w.heap.size v L) ∧ Keeps [] w w' := by
  have HG := Lib.hid h
  have hmax := h.row.max
  obtain ⟨a, c, hv⟩ := owns_val h.row.row
  rw [hv] at hq
  rcases Nat.eq_zero_or_pos G.N with h0 | h0
  · have hL : L = [] := List.eq_nil_of_length_eq_zero (by rw [← h.len, h0])
    rw [h0] at hq
    have hA := collect_any q 0 0 c a (fun _ => 0) (by omega) (by omega) w hq (by omega) (by have := World.block_lt_of_cell? w _ hq; omega)
    have HL := Lib.hid hL
    clear h hq hv hL h0
    go_enter Try.func29, Try.ntmps29
    go_wp2_with (fail)
    refine hA.mono ?_
    rintro e w1 ⟨⟨v, rfl, hv1⟩, k1⟩
    obtain ⟨a1, c1, rfl⟩ := owns_val (w := w1) (v := v) (k := 0) (n := 1) (e := 60) (xs := []) ⟨by simp, by
      rcases hv1.2 with h1 | ⟨g, cap, cur, e1, hb', h5⟩
      · exact .inl h1
      · exact .inr ⟨g, cap, cur, e1, Nat.zero_le _, h5⟩⟩
    have hS := sort_nil a1 c1 (.func (.func 31) #[] #[]) w1
    have K1 := Lib.hid k1
    clear hv1 k1 hA
    go_wp2_with (go_at_call 38; refine hS.mono ?_; rintro e w2 ⟨rfl, rfl⟩)
    go_ret
    refine ⟨⟨_, rfl, a1, c1, 0, fun _ => 0, by rw [HL.out]; rfl, ?_, ?_, ?_⟩, K1.out⟩
    · rw [HL.out]; intro h; simp at h
    · rw [HL.out]; intro h; simp at h
    · rw [HL.out]; intro k hk; simp at hk
  · obtain ⟨N, hN⟩ : ∃ N, G.N = N + 1 := ⟨G.N - 1, by omega⟩
    obtain ⟨g0, cap0, hv2, hR⟩ := h.row.hr h0
    rw [hv] at hv2
    injection hv2 with e1 e2 e3
    subst e1 e3
    have hA := collect_any q g0 G.N c (some ⟨g0, 0, none⟩) (fun k => (G.f k).b) (fun _ => rfl) hmax w hq (fun k hk => hR.cr hk) (World.block_lt_of_cell? w _ (hR.cr h0))
    have HN := Lib.hid hN
    clear h hq hv hR h0 e2
    go_enter Try.func29, Try.ntmps29
    go_wp2_with (fail)
    refine hA.mono ?_
    rintro e w1 ⟨⟨v, rfl, hv1⟩, k1⟩
    have hbl : (blks (fun k => (G.f k).b) G.N).length = N + 1 := by unfold blks; simpa using hN
    rcases hv1.2 with ⟨_, h1⟩ | ⟨g, cap, cur, rfl, hb', hgb, hnc, hcM, hcs, htk⟩
    · omega
    rw [hbl] at htk ⊢
    have hgw : g < w1.heap.size := Blk.lt (t := 60) (cs := cur) hgb
    have hS := sort_some N g cap G.f w1 hgw (fun k hk => by
      refine ⟨?_, Blk.frozen (t := 60) (cs := cur) hgb k⟩
      rw [Blk.cell (t := 60) (cs := cur) hgb]
      have h1 : ((blks (fun k => (G.f k).b) G.N).map ptrB)[k]? = some (G.f k).ptr := by
        unfold blks
        rw [List.map_map, List.getElem?_map, List.getElem?_range (by omega)]
        rfl
      rw [← htk, List.getElem?_take, if_pos (by omega)] at h1
      simpa using h1) (fun k hk => by
      have hB := HG.out.row.ent k (by omega)
      have hlt := hB.lt
      exact ⟨by omega, (k1.cell (p := ⟨(G.f k).b, 0, none⟩) hlt (by simp)).trans (hB.cell 0), (k1.cell (p := ⟨(G.f k).b, 1, none⟩) hlt (by simp)).trans (hB.cell 1)⟩) (by omega)
    have K1 := Lib.hid k1
    have HB := Lib.hid hb'
    clear hv1 k1 hA hbl hb' hgb hnc hcM hcs htk hgw
    go_wp2_with (go_at_call 38; refine hS.mono ?_; rintro e w2 ⟨rfl, f2, h2, p2, s2, k2⟩)
    go_ret
    have he := sorted_end (cap := cap) HG.out HN.out K1.out k2 HB.out h2 p2 s2
    exact ⟨⟨_, rfl, he.1⟩, he.2⟩
end Go.Proofs.Ytkkajcakgihckaa
