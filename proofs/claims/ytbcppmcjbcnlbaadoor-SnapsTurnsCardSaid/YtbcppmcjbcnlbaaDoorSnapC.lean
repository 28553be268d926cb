/- The walks of a pool's last and of what must be of it. -/
import Derived.Test.YtbcppmcjbcnlbaaDoorSnapB
namespace Go.Proofs.YtbcppmcjbcnlbaaDoor
open Go.RowKit Go.Shelf
attribute [local go_sem] Oper.semAt_some
attribute [local go_sem ↓] Go.wp_at_zero Go.wp_at_succ

theorem blk_low {B : Nat} {A A' : World} {g : Nat} {ty : TypeId} {cs : Array Value} (h : Blk A g ty cs) (hg : g < B) (hb : Below B A A') : Blk A' g ty cs := (hb.block _ hg).trans h
theorem blk_at (W : World) (t : TypeId) (cs : Array Value) (n : Nat) (hn : W.heap.size = n) : Blk (W.alloc (.cells cs t)) n t cs := by
  subst hn; exact Blk.new W t cs
theorem lastU_snoc (l : List Sn) (s : Sn) : lastU (l ++ [s]) = s.used := by simp [lastU]
/-- When one was asked for last. -/
def lastV (l : List (SV × Nat)) : Int := (l.getLast?.map (·.1.used)).getD 0
theorem lastV_snoc (l : List (SV × Nat)) (x : SV × Nat) : lastV (l ++ [x]) = x.1.used := by simp [lastV]
theorem lastV_all {w : World} {V : List SV} {L : List Sn} (h : Mt w V L) : lastV V.zipIdx = lastU L := by
  have hl := h.len
  unfold lastV lastU
  rcases Nat.eq_zero_or_pos L.length with h0 | h0
  · obtain rfl := List.eq_nil_of_length_eq_zero h0
    obtain rfl := List.eq_nil_of_length_eq_zero (hl.trans h0)
    rfl
  · rw [List.getLast?_eq_getElem?, List.getLast?_eq_getElem?, List.length_zipIdx]
    have h1 : V.length - 1 < V.length := by omega
    have h2 : L.length - 1 < L.length := by omega
    rw [List.getElem?_eq_getElem (by simpa using h1), List.getElem?_eq_getElem h2]
    simp only [List.getElem_zipIdx, Option.map_some, Option.getD_some]
    have := h.get (V.length - 1) h1 (by omega)
    rw [this.2.1]
    congr 2
    omega

set_option maxRecDepth 100000 in
set_option maxHeartbeats 2000000 in
theorem last_any (a : Option Addr) (c : Nat) (next : Int) (V : List SV) (hV : V.length ≤ 1000000) (w : World) (hR : RowIn w a V) (u : Int) (hu : lastV V.zipIdx = u) :
    Calls Tryd.prog 41 #[.agg #[.slice a V.length c, .int .i64 next]] w fun r w' => r = .returned (.int .i64 u) ∧ Keeps [] w w' := by
  refine (callsIn_wide (n := 9)).1 ?_
  have HU := Lib.hid hu
  have HR := Lib.hid hR
  obtain ⟨N, hN⟩ : ∃ N, V.length = N := ⟨_, rfl⟩
  have HN := Lib.hid hN
  rw [hN] at hV ⊢
  clear hu hR hN
  refine callsIn_of_wp_marks Tryd.func41 rfl trivial ?_ rfl
  simp only [Tryd.ntmps41, List.size_toArray, List.length_cons, List.length_nil, Nat.reduceAdd, Nat.reduceSub, Array.replicate_succ, Array.replicate_zero, List.push_toArray, List.append_toArray, List.nil_append, List.cons_append]
  gi_wp2_with (fail)
  refine ⟨trivial, (callsIn_wide.2 (snaps_any _ _ _ _ _)).mono ?_⟩
  rintro e w1 ⟨rfl, rfl⟩
  gi_wp2_with (fail)
  obtain ⟨W0, hW0⟩ : ∃ W0, (((w.alloc (.cells #[.slice a N c, .int .i64 next] 59)).alloc (.cells #[.int .i64 0] 3)).alloc (.cells #[.slice a N c, .int .i64 next] 59)) = W0 := ⟨_, rfl⟩
  have hs0 : W0.heap.size = w.heap.size + 3 := by rw [← hW0]; simp
  have hB0 : Below w.heap.size w W0 := by
    rw [← hW0]; exact (((Below.refl _ w).alloc (Nat.le_refl _) _).alloc (by simp) _).alloc (by simp; omega) _
  have b1 : Blk W0 (w.heap.size + 1) 3 #[.int .i64 0] := by
    rw [← hW0]; exact (blk_at _ _ _ _ (by simp)).alloc _
  have b2 : W0.cell? ⟨w.heap.size + 1 + 1, 0, none⟩ = some (.slice a V.length c) := by
    rw [← hW0, HN.out]; exact (blk_at _ 59 _ _ (by simp)).cell 0
  rw [hW0]
  clear hW0
  refine wpIn_rangeC rfl (by omega) (gf := 54) (lb := #[.pointer (some ⟨w.heap.size + 1 + 1, 0, none⟩)]) rfl trivial (enters_of Tryd.func54 (by kernel_rfl) rfl) (snaps_seq 8 (w.heap.size + 1 + 1) a c V (by rw [HN.out]; exact hV) W0 b2) (Below.refl _ _) (fun _ => rfl)
    (fun pre A => Below w.heap.size w A ∧ Blk A (w.heap.size + 1) 3 #[.int .i64 (lastV pre)]) (fun _ _ => False)
    (fun s A A' h hb => ⟨h.1.trans (hb.mono (by omega)), blk_low h.2 (by omega) hb⟩) (fun s A A' h hb => h)
    (fun s A h => HR.out.keeps (Keeps.of_below h.1 [])) ⟨hB0, b1⟩
    (fun x b => { tmps := #[.agg #[.slice a N c, .int .i64 next], .pointer (some ⟨w.heap.size, 0, none⟩), .int .i64 0, .pointer (some ⟨w.heap.size + 1, 0, none⟩), undef, .pointer (some ⟨b, 0, none⟩), .agg #[.slice a N c, .int .i64 next], .func (.func 54) #[] #[.pointer (some ⟨w.heap.size + 1 + 1, 0, none⟩)], .int .i64 (x.2 : Int), .agg #[.int .i64 x.1.cur, .slice x.1.ia x.1.il x.1.ic, .int .i64 x.1.used], undef, undef, undef], defers := [] })
    (fun x => .cells #[.int .i64 x.1.cur, .slice x.1.ia x.1.il x.1.ic, .int .i64 x.1.used] 39) ?assign ?body ?done ?stop
  case assign =>
    intro l x W K hK
    unfold itemS
    gi_wp2
    exact hK
  case body =>
    rintro l pre x b W ⟨hB, c1⟩ _ hb hbx
    have hb2 : Blk W b 39 #[.int .i64 x.1.cur, .slice x.1.ia x.1.il x.1.ic, .int .i64 x.1.used] := hbx
    have d2 := hb2.cell 2
    have e1 : W.cell? ⟨w.heap.size + 1, 0, none⟩ = some (.int .i64 (lastV pre)) := c1.cell 0
    have f1 := c1.frozen 0
    have HB := Lib.hid hB
    have HC := Lib.hid c1
    clear hB c1 hb2 hbx
    gi_wp2
    refine ⟨FarK.setCell (p := ⟨w.heap.size + 1, 0, none⟩) (by dsimp only; omega) W _, HB.out.setCell (p := ⟨w.heap.size + 1, 0, none⟩) (by dsimp only; omega) _, ?_⟩
    rw [lastV_snoc]
    exact HC.out.set_ 0 _
  case done =>
    rintro D W hD ⟨hB, c1⟩ hK
    have hD2 : w.heap.size ≤ D := by omega
    rw [HU.out] at c1
    have e1 : W.cell? ⟨w.heap.size + 1, 0, none⟩ = some (.int .i64 u) := c1.cell 0
    have HB := Lib.hid hB
    clear hB c1 hs0 hB0 b1 b2
    gi_wp2
    refine ⟨by simp, .inl ⟨_, _, rfl, run_takeDeferred hK, ?_⟩⟩
    exact ⟨_, results_tmp rfl _ _ _, rfl, Keeps.of_below (HB.out.trans (belowK_b (n₀ := w.heap.size) (w := w) (Nat.le_refl _) _ D _ _ (by omega) hK rfl rfl)) []⟩
  case stop =>
    rintro D pre W _ _ h _
    exact h.elim
end Go.Proofs.YtbcppmcjbcnlbaaDoor
