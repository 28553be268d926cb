/- The walk of slices.DeleteFunc at listings, with Pin's predicate. -/
import Derived.Test.YtbcppmcjbcnlbaaDoorSnapI
namespace Go.Proofs.YtbcppmcjbcnlbaaDoor
open Go.RowKit Go.Shelf
attribute [local go_sem ↓] Go.wp_at_zero Go.wp_at_succ

theorem filter_all {α : Type} {p : α → Bool} {l : List α} (h : l.all p = true) : l.filter p = l := List.filter_eq_self.2 (by simpa [List.all_eq_true] using h)
theorem SegIs.app {W : World} {g off : Nat} {a b : List Value} (h1 : SegIs W g off a) (h2 : SegIs W g (off + a.length) b) : SegIs W g off (a ++ b) := fun j hj => by
  rcases Nat.lt_or_ge j a.length with h | h
  · rw [List.getElem_append_left h]; exact h1 j h
  · rw [List.getElem_append_right h]
    have := h2 (j - a.length) (by rw [List.length_append] at hj; omega)
    rwa [show off + a.length + (j - a.length) = off + j by omega] at this
theorem SegIs.left {W : World} {g off : Nat} {a b : List Value} (h : SegIs W g off (a ++ b)) : SegIs W g off a := fun j hj => by
  have := h j (by rw [List.length_append]; omega)
  rwa [List.getElem_append_left hj] at this
theorem SegIs.right {W : World} {g off : Nat} {a b : List Value} (h : SegIs W g off (a ++ b)) : SegIs W g (off + a.length) b := fun j hj => by
  have := h (a.length + j) (by rw [List.length_append]; omega)
  rw [List.getElem_append_right (by omega)] at this
  rw [Nat.add_assoc, this]
  congr 2
  omega
theorem SegIs.out {W : World} {g off o : Nat} {vs ws : List Value} (h : SegIs W g off vs) (ho : off + vs.length ≤ o ∨ o + ws.length ≤ off) : SegIs (W.setCells g o ws) g off vs := fun j hj => by
  rw [World.cell?_setCells_out _ _ _ _ _ (fun _ _ => by dsimp only; omega)]; exact h j hj
theorem SegIs.into {W : World} {g o : Nat} {vs : List Value} (h : ∀ j, j < vs.length → (W.cell? ⟨g, o + j, none⟩).isSome = true) : SegIs (W.setCells g o vs) g o vs := fun j hj => World.cell?_setCells_in g vs o W h j hj

set_option maxRecDepth 100000 in
set_option maxHeartbeats 4000000 in
theorem delStale_any (v : Value) (V : List SV) (B : Nat) (hs : V.length ≤ 1000) (now : Int) (hnow : TickOk now) (hu : ∀ x ∈ V, TickOk x.used) (pb : Nat) (w : World) (hB : B ≤ w.heap.size) (hpb : pb < B) (hp : w.cell? ⟨pb, 0, none⟩ = some (.int .i64 now)) (hR : SRow w B v V) :
    Calls Tryd.prog 27 #[v, .func (.func 26) #[] #[.pointer (some ⟨pb, 0, none⟩)]] w fun r w' => ∃ v', r = .returned v' ∧ SRow w' B v' (V.filter (freshV now)) ∧ StrK B w w' := by
  obtain ⟨a0, c0, rfl, hc0, hrow⟩ := hR.row
  obtain ⟨n, hn⟩ : ∃ n, V.length = n := ⟨_, rfl⟩
  rw [hn] at hs hR ⊢
  have HI := Lib.hid (indexStale_any a0 c0 V n hn hs now hnow hu pb w hp hrow)
  have HR := Lib.hid hR
  have HN := Lib.hid hn
  have HT := Lib.hid hnow
  have HU := Lib.hid hu
  have HP := Lib.hid hp
  clear hR hn hnow hu hp hrow hc0
  go_enter Tryd.func27, Tryd.ntmps27
  go_wp2_with (fail)
  refine HI.out.mono ?_
  rintro r w1 ⟨i, rfl, hidx, hk1⟩
  clear HI
  have HK1 := Lib.hid hk1
  rcases hidx with ⟨rfl, hall⟩ | ⟨k0, x0, rfl, hx0, htk, hfx⟩
  · have HF := Lib.hid (filter_all hall)
    clear hall hk1
    go_wp2
    go_ret
    exact ⟨_, rfl, by rw [HF.out]; exact HR.out.keeps HK1.out, StrK.of_keeps HK1.out hB⟩
  · have hne : ((k0 : Int) == -1) = false := by simp
    have hkl : k0 < n := by rw [← HN.out]; exact (List.getElem?_eq_some_iff.1 hx0).1
    have hf0 : (V.take (k0 + 1)).filter (freshV now) = V.take k0 := by
      rw [take_snoc hx0, List.filter_append, filter_all htk]; simp [hfx]
    rcases (HR.out.keeps hk1) with ⟨_, hnil⟩ | ⟨g, off, cap, hv, hg, hseg, hlc, hcm, his⟩
    · exact absurd HN.out (by rw [hnil]; simp; omega)
    · injection hv with e1 e2 e3
      subst e1
      subst e3
      clear e2
      rw [HN.out] at hlc
      have his0 : SegIs w1 g off ((V.take k0).flatMap SV.cells) := by
        have := his
        rw [← List.take_append_drop k0 V, List.flatMap_append] at this
        exact this.left
      have hisd : SegIs w1 g (off + (k0 + 1) * 3) ((V.drop (k0 + 1)).flatMap SV.cells) := by
        have := his
        rw [← List.take_append_drop (k0 + 1) V, List.flatMap_append] at this
        have h2 := this.right
        rwa [flat_len, List.length_take, Nat.min_eq_left (by rw [HN.out]; omega)] at h2
      have HF0 := Lib.hid hf0
      have HS0 := Lib.hid his0
      have HSD := Lib.hid hisd
      have HSG := Lib.hid hseg
      have HST := Lib.hid (StrK.of_keeps hk1 hB)
      have hk0n : (V.take k0).length = k0 := by rw [List.length_take, HN.out]; omega
      have HK0 := Lib.hid hk0n
      clear hx0 htk hfx hf0 his his0 hisd hseg hk1 hk0n
      go_wp2
      go_loopw [5, 6] (fun i j wr => ∃ (k1 k2 : Nat) (K : List SV), i = .int .i64 k1 ∧ j = .int .i64 k2 ∧ k1 < k2 ∧ k2 ≤ n ∧ Hid (K.length = k1) ∧ Hid ((V.take k2).filter (freshV now) = K) ∧ Hid (SegIs wr g off (K.flatMap SV.cells)) ∧ Hid (SegIs wr g (off + k2 * 3) ((V.drop k2).flatMap SV.cells)) ∧ Hid (Seg wr g off (c0 * 3)) ∧ Hid (StrK B w wr)) (fun _ j _ => n - (intOf j).toNat)
      case atStart => exact ⟨k0, k0 + 1, V.take k0, rfl, by go_num, by omega, by omega, HK0, HF0, HS0, HSD, HSG, HST⟩
      case round =>
        obtain ⟨k1, k2, K, rfl, rfl, h12, h2n, HKL, HKF, HSK, HSR, HSG2, HST2⟩ := hrel
        by_cases hlt : k2 < n
        · have hk2 : k2 < V.length := by rw [HN.out]; exact hlt
          obtain ⟨x, hx⟩ : ∃ x, V[k2] = x := ⟨_, rfl⟩
          have hdr : V.drop k2 = x :: V.drop (k2 + 1) := by rw [List.drop_eq_getElem_cons hk2, hx]
          have hsr := HSR.out
          rw [hdr, List.flatMap_cons] at hsr
          have p0 : wr.cell? ⟨g, off + k2 * 3, none⟩ = some (.int .i64 x.cur) := hsr 0 (by rw [List.length_append]; have : x.cells.length = 3 := rfl; omega)
          have p1 : wr.cell? ⟨g, off + k2 * 3 + 1, none⟩ = some (.slice x.ia x.il x.ic) := hsr 1 (by rw [List.length_append]; have : x.cells.length = 3 := rfl; omega)
          have p2 : wr.cell? ⟨g, off + k2 * 3 + 2, none⟩ = some (.int .i64 x.used) := hsr 2 (by rw [List.length_append]; have : x.cells.length = 3 := rfl; omega)
          have hsr2 : SegIs wr g (off + (k2 + 1) * 3) ((V.drop (k2 + 1)).flatMap SV.cells) := by
            have := hsr.right
            rwa [show off + k2 * 3 + x.cells.length = off + (k2 + 1) * 3 by simp [SV.cells]; omega] at this
          have HSR2 := Lib.hid hsr2
          have HX : Hid (V[k2]? = some x) := Lib.hid (by rw [List.getElem?_eq_getElem hk2, hx])
          have HXU : Hid (TickOk x.used) := Lib.hid (HU.out x (by rw [← hx]; exact List.getElem_mem _))
          have i1 : (0 : Int) ≤ (k2 : Int) := by omega
          have i2 : (k2 : Int) < (n : Int) := by omega
          have i3 : (0 : Int) ≤ (k1 : Int) := by omega
          have i4 : (k1 : Int) < (n : Int) := by omega
          have hb := Blk.new wr 39 #[.int .i64 x.cur, .slice x.ia x.il x.ic, .int .i64 x.used]
          have hk3 := (Keeps.refl [] wr).alloc (.cells #[.int .i64 x.cur, .slice x.ia x.il x.ic, .int .i64 x.used] 39)
          have hwp : w.heap.size ≤ wr.heap.size := HST2.out.low.size
          have HPC : Hid ((wr.alloc (.cells #[.int .i64 x.cur, .slice x.ia x.il x.ic, .int .i64 x.used] 39)).cell? ⟨pb, 0, none⟩ = some (.int .i64 now)) := Lib.hid (by
            rw [World.cell?_alloc_lt _ _ _ (by dsimp only; omega)]
            exact (World.cell?_of_block (a := ⟨pb, 0, none⟩) (HST2.out.low.block pb hpb)).trans HP.out)
          have HBX := Lib.hid hb
          have HK3 := Lib.hid hk3
          have d0 := hb.cell 0
          have d1 := hb.cell 1
          have d2 := hb.cell 2
          clear hsr hsr2 hdr hx hk2 hb hk3
          cases hr : freshV now x with
          | false =>
            have HF := Lib.hid hr
            have HKF2 : Hid ((V.take (k2 + 1)).filter (freshV now) = K) := Lib.hid (by rw [take_snoc HX.out, List.filter_append, HKF.out]; simp [hr])
            clear hr
            go_wp2_with (fail)
            refine (stale_any x HXU.out now HT.out pb false HF.out _ HPC.out).mono ?_
            rintro r w2 ⟨rfl, hkc⟩
            have HKC := Lib.hid (HK3.out.trans hkc)
            clear hkc p0 p1 p2 d0 d1 d2
            go_wp2
            go_roundw
            case rel =>
              have hbk := HKC.out.block g HSG2.out.lt (by simp)
              exact ⟨k1, k2 + 1, K, rfl, by go_num, by omega, by omega, HKL, HKF2, Lib.hid (HSK.out.same hbk), Lib.hid (HSR2.out.same hbk), Lib.hid (HSG2.out.same hbk), Lib.hid (HST2.out.trans (StrK.of_keeps HKC.out (by omega)))⟩
            case measure => simp [intOf]; omega
          | true =>
            have HF := Lib.hid hr
            have HKF2 : Hid ((V.take (k2 + 1)).filter (freshV now) = K ++ [x]) := Lib.hid (by rw [take_snoc HX.out, List.filter_append, HKF.out]; simp [hr])
            clear hr
            go_wp2_with (fail)
            refine (stale_any x HXU.out now HT.out pb true HF.out _ HPC.out).mono ?_
            rintro r w2 ⟨rfl, hkc⟩
            have hbk := (HK3.out.trans hkc).block g HSG2.out.lt (by simp)
            have hsg := HSG2.out.same hbk
            have HSG3 := Lib.hid hsg
            have HSK3 := Lib.hid (HSK.out.same hbk)
            have HSR3 := Lib.hid (HSR2.out.same hbk)
            have HKC := Lib.hid (HK3.out.trans hkc)
            have hb2 := HBX.out.keeps hkc (by simp)
            have d0 := hb2.cell 0
            have d1 := hb2.cell 1
            have d2 := hb2.cell 2
            obtain ⟨u0, q0⟩ := Option.isSome_iff_exists.1 (hsg.cells (k1 * 3) (by omega))
            obtain ⟨u1, q1⟩ := Option.isSome_iff_exists.1 (hsg.cells (k1 * 3 + 1) (by omega))
            obtain ⟨u2, q2⟩ := Option.isSome_iff_exists.1 (hsg.cells (k1 * 3 + 2) (by omega))
            rw [← Nat.add_assoc] at q1 q2
            have f0 := hsg.frozen (off + k1 * 3)
            have f1 := hsg.frozen (off + k1 * 3 + 1)
            have f2 := hsg.frozen (off + k1 * 3 + 2)
            clear hkc hbk hsg hb2 p0 p1 p2
            go_wp2
            go_roundw
            case rel =>
              refine ⟨k1 + 1, k2 + 1, K ++ [x], by go_num, by go_num, by omega, by omega, Lib.hid (by rw [List.length_append, HKL.out]; rfl), HKF2, ?_⟩
              show Hid (SegIs (w2.setCells g (off + k1 * 3) x.cells) g off ((K ++ [x]).flatMap SV.cells)) ∧ Hid (SegIs (w2.setCells g (off + k1 * 3) x.cells) g (off + (k2 + 1) * 3) _) ∧ Hid (Seg (w2.setCells g (off + k1 * 3) x.cells) g off (c0 * 3)) ∧ Hid (StrK B w (w2.setCells g (off + k1 * 3) x.cells))
              have hxl : x.cells.length = 3 := rfl
              have hfl : (K.flatMap SV.cells).length = k1 * 3 := by rw [flat_len, HKL.out]
              refine ⟨Lib.hid ?_, Lib.hid (HSR3.out.out (.inr (by omega))), Lib.hid (HSG3.out.setCells _ _), Lib.hid ((HST2.out.trans (StrK.of_keeps HKC.out (by omega))).trans (StrK.of_one (keeps_setCells g _ _ w2) (by have := HKC.out.size; omega) hg HSG3.out.blk))⟩
              rw [List.flatMap_append]
              refine SegIs.app (HSK3.out.out (.inl (by omega))) ?_
              rw [hfl]
              have e : [x].flatMap SV.cells = x.cells := by simp
              rw [e]
              exact SegIs.into (fun j hj => by have := HSG3.out.cells (k1 * 3 + j) (by omega); rwa [← Nat.add_assoc] at this)
            case measure => simp [intOf]; omega
        · obtain rfl : k2 = n := by omega
          have hsl := snap_slice_l wr g off k2 c0 k1 (by omega) (by omega)
          have hcl := fun ty => run_clear_snaps wr ty g (off + k1 * 3) (k2 - k1) (c0 - k1) (by omega) (fun j hj => by
            have := HSG2.out.cells (k1 * 3 + j) (by omega)
            rwa [← Nat.add_assoc] at this) (fun j _ => HSG2.out.frozen _)
          obtain ⟨W9, hW9⟩ : ∃ W9, wr.setCells g (off + k1 * 3) (zeros3 (k2 - k1)) = W9 := ⟨_, rfl⟩
          rw [hW9] at hcl
          have hsh := snap_slice_h W9 g off k2 c0 k1 (by omega)
          have hKF := HKF.out
          rw [List.take_of_length_le (by rw [HN.out]; exact Nat.le_refl _)] at hKF
          have HKF2 := Lib.hid hKF
          have HW9 := Lib.hid hW9
          have i2 : ¬ ((k2 : Int) < (k2 : Int)) := by omega
          clear hKF hW9
          go_wp2
          go_ret
          refine ⟨.slice (some ⟨g, off, none⟩) k1 c0, rfl, ?_, ?_⟩
          · rw [HKF2.out, ← HW9.out]
            refine .inr ⟨g, off, c0, by rw [HKL.out], hg, HSG2.out.setCells _ _, by rw [HKL.out]; omega, hcm, HSK.out.out (.inl (by rw [flat_len, HKL.out]; omega))⟩
          · rw [← HW9.out]
            exact HST2.out.trans (StrK.of_one (keeps_setCells g _ _ wr) (by have := HST2.out.low.size; omega) hg HSG2.out.blk)
end Go.Proofs.YtbcppmcjbcnlbaaDoor
