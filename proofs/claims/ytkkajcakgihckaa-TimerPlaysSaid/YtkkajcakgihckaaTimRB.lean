/- The document's timer: Cancel, Due. -/
import Derived.Test.YtkkajcakgihckaaTimRA
import Derived.Deep.LoopGhost
namespace Go.Proofs.Ytkkajcakgihckaa
open Go.RowKit Go.Shelf
attribute [local go_sem] Oper.semAt_some
attribute [local go_sem ↓] Go.wp_at_zero Go.wp_at_succ

theorem tKey_info : (Try.prog.info? 64).map (fun i => (i.zero, i.size, i.bytes)) = some (some (.agg #[.int .i64 0, .int .i64 0]), 2, 16) := by kernel_rfl
def kcells (x : Ke) : List Value := [.int .i64 x.key, .int .i64 x.at_]
/-- A new slice of these keys. -/
def NewK (w : World) (base : Nat) (v : Value) (L : List Ke) : Prop := w.ownsRow base 64 2 v L.length (L.flatMap kcells)
theorem kcells_at : ∀ (L : List Ke) (i : Nat) (h : i < L.length), (L.flatMap kcells)[i * 2]? = some (.int .i64 L[i].key) ∧ (L.flatMap kcells)[i * 2 + 1]? = some (.int .i64 L[i].at_)
  | [], i, h => by simp at h
  | x :: l, 0, _ => by simp [kcells]
  | x :: l, i + 1, h => by
    obtain ⟨h1, h2⟩ := kcells_at l i (by simpa using h)
    rw [List.flatMap_cons]
    have hl : (kcells x).length = 2 := rfl
    refine ⟨?_, ?_⟩
    · rw [List.getElem?_append_right (by omega), hl, show (i + 1) * 2 - 2 = i * 2 by omega, h1]; rfl
    · rw [List.getElem?_append_right (by omega), hl, show (i + 1) * 2 + 1 - 2 = i * 2 + 1 by omega, h2]; rfl
theorem NewK.block {w : World} {base : Nat} {v : Value} {L : List Ke} (h : NewK w base v L) : ∀ j, v.ownBlock = some j → base ≤ j := fun j hj => by
  rcases h.2 with ⟨rfl, _⟩ | ⟨g, cap, cur, rfl, hb, _⟩
  · simp [Value.ownBlock] at hj
  · obtain rfl : g = j := by simpa [Value.ownBlock] using hj
    exact hb
theorem NewK.ks {w : World} {base : Nat} {v : Value} {L : List Ke} (h : NewK w base v L) : ∃ g, KeysAt w g v L ∧ (0 < L.length → base ≤ g) := by
  rcases h.2 with ⟨rfl, h0⟩ | ⟨g, cap, cur, rfl, hb, hg, hn, _, hs, ht⟩
  · exact ⟨0, ⟨none, 0, by rw [h0], by omega, fun h1 => by omega⟩, fun h1 => by omega⟩
  · refine ⟨g, ⟨_, cap, rfl, hn, fun _ => ⟨0, rfl, Blk.lt (t := 64) (cs := cur) hg, fun i hi => ?_⟩⟩, fun _ => hb⟩
    obtain ⟨h1, h2⟩ := kcells_at L i hi
    rw [← ht, List.getElem?_take, if_pos (by omega)] at h1 h2
    rw [Nat.zero_add, Blk.cell (t := 64) (cs := cur) hg, Blk.cell (t := 64) (cs := cur) hg]
    exact ⟨by simpa using h1, by simpa using h2⟩

/-- What a call that writes a new list leaves. -/
theorem rt_store {w w1 : World} {t g : Nat} {v u : Value} {L L' : List Ke} (h : RtA w t g v L) (k1 : Keeps [] w w1) (hn : NewK w1 w.heap.size u L') (hl : L'.length ≤ 64) :
    ∃ g', RtA (w1.setCell ⟨t, 0, none⟩ u) t g' u L' ∧ (g' = t ∨ w.heap.size ≤ g') ∧ g' < (w1.setCell ⟨t, 0, none⟩ u).heap.size ∧ Keeps [t] w (w1.setCell ⟨t, 0, none⟩ u) := by
  have ht := h.head.lt
  have hb : Blk (w1.setCell ⟨t, 0, none⟩ u) t 58 #[u] := (h.head.keeps k1 (by simp)).set_ 0 u
  have kt : Keeps [t] w (w1.setCell ⟨t, 0, none⟩ u) := (k1.mono (by simp)).setCell (p := ⟨t, 0, none⟩) (.inl (by simp)) u
  obtain ⟨g', hk, hge⟩ := hn.ks
  by_cases h0 : 0 < L'.length
  · have hg := hge h0
    obtain ⟨a, c, ha, hc, hcell⟩ := hk
    obtain ⟨off, ha2, hlt, hcl⟩ := hcell h0
    refine ⟨g', ⟨hb, ?_, fun _ => by omega, hl⟩, .inr hg, by simpa [World.setCell] using hlt, kt⟩
    exact KeysAt.keeps (S := [t]) (w := w1) ⟨a, c, ha, hc, hcell⟩ ((Keeps.refl [t] w1).setCell (p := ⟨t, 0, none⟩) (.inl (by simp)) u) (by simp; omega)
  · have hz : L' = [] := List.eq_nil_of_length_eq_zero (by omega)
    subst hz
    obtain ⟨a, c, ha, hc, _⟩ := hk
    exact ⟨t, ⟨hb, ⟨a, c, ha, hc, fun h => by simp at h⟩, fun h => by simp at h, hl⟩, .inl rfl, hb.lt, kt⟩

theorem cancel_take {L : List Ke} {k : Nat} {x : Ke} (hx : L[k]? = some x) (key : Int) : cancelL (L.take (k + 1)) key = cancelL (L.take k) key ++ if x.key = key then [] else [x] := by
  rw [take_snoc hx]
  unfold cancelL
  rw [List.filter_append]
  by_cases e : x.key = key
  · simp [e]
  · simp [e]

set_option maxRecDepth 100000 in
set_option maxHeartbeats 2000000 in
theorem rTcancel_any (t g : Nat) (v : Value) (L : List Ke) (key : Int) (r : Bool) (hr : decide ((cancelL L key).length < L.length) = r) (w : World) (h : RtA w t g v L) :
    Calls Try.prog 25 #[.pointer (some ⟨t, 0, none⟩), .int .i64 key] w fun e w' => e = .returned (.bool r) ∧ ∃ u g', RtA w' t g' u (cancelL L key) ∧ (g' = t ∨ w.heap.size ≤ g') ∧ g' < w'.heap.size ∧ Keeps [t] w w' := by
  obtain ⟨i0, hi, hz0, hz1, hz2⟩ := info_parts tKey_info
  have HH := Lib.hid h
  have c0 := h.head.cell 0
  simp at c0
  have hmax := h.max
  obtain ⟨a, c, rfl, hcc, hk⟩ := h.ks
  obtain ⟨M, hM⟩ : ∃ M, L.length = M := ⟨_, rfl⟩
  have HM := Lib.hid hM
  have HC := Lib.hid hk
  have htl := h.head.lt
  rw [hM] at c0 hmax hcc
  have HRR := Lib.hid hr
  clear h hk hM hr
  have HC0 := Lib.hid c0
  go_enter Try.func25, Try.ntmps25
  go_wp2
  go_loopw [5, 6] (fun v i wr => ∃ k : Nat, k ≤ M ∧ i = .int .i64 k ∧ Hid (NewK wr w.heap.size v (cancelL (L.take k) key)) ∧ Hid (Keeps [] w wr)) (fun _ i _ => M - (intOf i).toNat)
  case atStart => exact ⟨0, Nat.zero_le _, rfl, Lib.hid (World.ownsRow_nil _ _ _ _), Lib.hid (Keeps.refl _ _)⟩
  case round =>
    obtain ⟨k, hk, rfl, HR, HK⟩ := hrel
    have c1 : wr.cell? ⟨t, 0, none⟩ = some (.slice a M c) := (HK.out.cell (p := ⟨t, 0, none⟩) htl (by simp)).trans HC0.out
    clear c0
    by_cases hlt : k < M
    · have hkL : k < L.length := by rw [HM.out]; exact hlt
      obtain ⟨off, rfl, hg, hcl⟩ := HC.out (by omega)
      obtain ⟨x, hx⟩ : ∃ x, L[k]? = some x := ⟨_, List.getElem?_eq_getElem hkL⟩
      have hxe : L[k] = x := by rw [List.getElem?_eq_getElem hkL] at hx; injection hx
      have h1 := (hcl k hkL).1
      have h2 := (hcl k hkL).2
      rw [hxe] at h1 h2
      have q1 : wr.cell? ⟨g, off + k * 2, none⟩ = some (.int .i64 x.key) := (HK.out.cell (p := ⟨g, off + k * 2, none⟩) hg (by simp)).trans h1
      have q2 : wr.cell? ⟨g, off + k * 2 + 1, none⟩ = some (.int .i64 x.at_) := (HK.out.cell (p := ⟨g, off + k * 2 + 1, none⟩) hg (by simp)).trans h2
      have i1 : (0 : Int) ≤ (k : Int) := by omega
      have i2 : (k : Int) < (M : Int) := by omega
      have hct := cancel_take hx key
      have hsz := HK.out.size
      have hlk : (cancelL (L.take k) key).length ≤ k := Nat.le_trans (List.length_filter_le _ _) (by rw [List.length_take]; omega)
      obtain ⟨n, hn⟩ : ∃ n, (cancelL (L.take k) key).length = n := ⟨_, rfl⟩
      by_cases he : x.key = key
      · have hb : (x.key != key) = false := by simpa using he
        rw [if_pos he, List.append_nil] at hct
        have HCT := Lib.hid hct
        clear h1 h2 hx hxe hcl hkL hct he hn hlk hg
        go_wp2
        go_roundw
        case rel => exact ⟨k + 1, by omega, by go_num, Lib.hid (by rw [HCT.out]; exact HR.out), HK⟩
        case measure => simp [intOf]; omega
      · have hb : (x.key != key) = true := by simpa using he
        rw [if_neg he] at hct
        have HCT := Lib.hid hct
        have HLN := Lib.hid hn
        have hrow : wr.ownsRow w.heap.size 64 2 u5 n ((cancelL (L.take k) key).flatMap kcells) := by
          have h5 := HR.out
          unfold NewK at h5
          rw [hn] at h5
          exact h5
        have HRW := Lib.hid hrow
        rw [hn] at hlk
        clear h1 h2 hx hxe hcl hkL hct he hn hrow hg
        go_wp2_with (at_builtin; refine wpList_append_lies _ rfl _ _ _ (by rfl) w.heap.size 64 i0 _ 2 16 Try.underlying56 hi hz0 hz1 hz2 rfl (by omega) u5 n _ (by rfl) (World.ownsRow.alloc HRW.out _) ⟨wr.heap.size, 0, none⟩ 1 1 _ (by rfl) (by rfl) (World.news_of_block (heap_alloc_new _ _)) (by simp [Value.oneCell']) (by omega) (by unfold maxLen; omega) (by omega) (by simp; omega) (wr.heap.size + 1) (by simp) ?_; intro g2 cap2 w4 hown1 hgrow hat hlt2)
        go_roundw
        case rel =>
          refine ⟨k + 1, by omega, by go_num, Lib.hid ?_, Lib.hid ?_⟩
          · unfold NewK
            rw [HCT.out, List.flatMap_append, List.length_append, HLN.out]
            have e : [x].flatMap kcells = kcells x := by simp
            rw [e]
            exact hown1
          · exact (HK.out.alloc _).grown hgrow (fun j hj => by
              have := HR.out.block j hj
              right; omega)
        case measure => simp [intOf]; omega
    · obtain rfl : k = M := by omega
      have hrw := HR.out
      rw [List.take_of_length_le (by rw [HM.out]; exact Nat.le_refl _)] at hrw
      obtain ⟨a5, c5, rfl⟩ := owns_val (w := wr) (v := u5) (k := (cancelL L key).length) (n := 2) (e := 64) (xs := (cancelL L key).flatMap kcells) ⟨hrw.1, by
        rcases hrw.2 with h1 | ⟨g, cap, cur, e1, hb', h5⟩
        · exact .inl h1
        · exact .inr ⟨g, cap, cur, e1, Nat.zero_le _, h5⟩⟩
      have htb := HH.out.head.keeps HK.out (by simp)
      have f1 := htb.frozen 0
      have hst := rt_store HH.out HK.out hrw (Nat.le_trans (List.length_filter_le _ _) HH.out.max)
      have HST := Lib.hid hst
      obtain ⟨n, hn⟩ : ∃ n, (cancelL L key).length = n := ⟨_, rfl⟩
      have hrr := HRR.out
      rw [HM.out, hn] at hrr
      rw [hn] at HST ⊢
      have HRD := Lib.hid hrr
      clear hrw htb hst hrr hn HR
      go_wp2
      go_ret
      obtain ⟨g', h1, h2, h3, h4⟩ := HST.out
      exact ⟨ret_bool HRD.out, _, g', h1, h2, h3, h4⟩

theorem KeysAt.pop {w : World} {g : Nat} {v : Value} {x : Ke} {l : List Ke} (h : KeysAt w g v (x :: l)) :
    ∃ off c v', v = .slice (some ⟨g, off, none⟩) (l.length + 1) c ∧ g < w.heap.size ∧ w.cell? ⟨g, off, none⟩ = some (.int .i64 x.key) ∧ w.cell? ⟨g, off + 1, none⟩ = some (.int .i64 x.at_) ∧ KeysAt w g v' l ∧
      ∀ W2, (Instr.slice 56 (.slice (some ⟨g, off, none⟩) (l.length + 1) c) (some (.int .i64 1)) none none).run Try.prog W2 = .ok v' W2 := by
  obtain ⟨a, c, rfl, hc, h2⟩ := h
  obtain ⟨off, rfl, hg, hcl⟩ := h2 (by simp)
  simp only [List.length_cons] at hc hcl
  have hrun : ∀ W2, (Instr.slice 56 (.slice (some ⟨g, off, none⟩) (l.length + 1) c) (some (.int .i64 1)) none none).run Try.prog W2 = .ok (sliced (some ⟨g, off, none⟩) 1 (l.length + 1) c 2) W2 := fun W2 => by
    have ht : Try.prog.underlying 56 = some (.slice (Try.prog.elem 56)) := by kernel_rfl
    have hsz : (sizeOf (Try.prog.elem 56)).run Try.prog W2 = .ok 2 W2 := by kernel_rfl
    have h1 := run_slice_l (P := Try.prog) W2 56 (some ⟨g, off, none⟩) (l.length + 1) c ht .i64 1 (by omega) (by omega)
    rw [h1, hsz]
    rfl
  have c0 := hcl 0 (by omega)
  refine ⟨off, c, _, rfl, hg, by simpa using c0.1, by simpa using c0.2, ?_, hrun⟩
  unfold sliced
  by_cases hc1 : c = 1
  · subst hc1
    have hx : l = [] := List.eq_nil_of_length_eq_zero (by omega)
    subst hx
    rw [if_pos rfl]
    exact ⟨_, 0, rfl, Nat.le_refl _, fun h0 => by simp at h0⟩
  · rw [if_neg hc1]
    refine ⟨_, c - 1, rfl, by omega, fun h0 => ⟨off + 2, by simp [Addr.add], hg, fun i hi => ?_⟩⟩
    have h3 := hcl (i + 1) (by omega)
    rw [show off + (i + 1) * 2 = off + 2 + i * 2 by omega] at h3
    simpa using h3

/-- What holds behind some rounds of the document's Due. -/
structure RduI (t g : Nat) (L : List Ke) (now : Int) (w : World) (done L1 : List Ke) (u v : Value) (A : World) : Prop where
  rt : RtA A t g v L1
  out : NewI A w.heap.size u (keysL done)
  k : Keeps [t] w A
  split : done ++ L1 = L
  le : ∀ k ∈ done, k.at_ ≤ now

set_option maxRecDepth 100000 in
set_option maxHeartbeats 2000000 in
theorem rTdue_any (t g : Nat) (v : Value) (L : List Ke) (now : Int) (ys : List Int) (hys : keysL (dueL L now) = ys) (w : World) (h : RtA w t g v L) (hgl : g < w.heap.size) :
    Calls Try.prog 26 #[.pointer (some ⟨t, 0, none⟩), .int .i64 now] w fun e w' => (∃ u, e = .returned u ∧ NewI w' w.heap.size u ys) ∧ ∃ v', RtA w' t g v' (leftL L now) ∧ Keeps [t] w w' := by
  obtain ⟨i0, hi, hz0, hz1, hz2⟩ := info_parts tint_info10
  have HYS := Lib.hid hys
  have hmax := h.max
  have htl := h.head.lt
  have H0 : Hid (RduI t g L now w [] L (.slice none 0 0) v w) := Lib.hid ⟨h, World.ownsRow_nil _ _ _ _, Keeps.refl _ _, rfl, by simp⟩
  clear hys h
  go_enter Try.func26, Try.ntmps26
  go_wp2
  go_loopg [5] L.length (fun gg u wr => ∃ done L1 v1, gg = L1.length ∧ Hid (RduI t g L now w done L1 u v1 wr))
  case atStart => exact ⟨[], L, v, rfl, H0⟩
  case round =>
    obtain ⟨done, L1, v1, rfl, HI⟩ := hrel
    clear H0
    have ct := HI.out.rt.head.cell 0
    have ft := HI.out.rt.head.frozen 0
    simp at ct
    have hdl := due_split HI.out.le L1
    rw [HI.out.split] at hdl
    cases L1 with
    | nil =>
      obtain ⟨a1, c1, hv1, _⟩ := HI.out.rt.ks
      rw [hv1] at ct
      clear hv1
      have HDL : Hid (dueL L now = done ∧ leftL L now = []) := Lib.hid (by rw [hdl.1, hdl.2]; simp [dueL, leftL])
      clear hdl
      go_wp2
      go_ret
      have h1 := HI.out.out
      rw [← HDL.out.1, HYS.out] at h1
      exact ⟨⟨_, rfl, h1⟩, v1, by rw [HDL.out.2]; exact HI.out.rt, HI.out.k⟩
    | cons x l =>
      obtain ⟨off, c, v2, rfl, hg, q1, q2, hks, hsl⟩ := HI.out.rt.ks.pop
      rw [dueL_cons, leftL_cons] at hdl
      have hlen : (x :: l).length ≤ 64 := HI.out.rt.max
      have hlen2 : done.length + (x :: l).length ≤ 64 := by rw [← List.length_append, HI.out.split]; exact hmax
      simp only [List.length_cons] at hlen hlen2
      obtain ⟨M, hM⟩ : ∃ M, l.length + 1 = M := ⟨_, rfl⟩
      rw [hM] at ct hsl hlen hlen2
      have i1 : (0 : Int) < (M : Int) := by omega
      have hgt : g ≠ t := HI.out.rt.ne (by simp)
      have hmx : l.length ≤ 64 := by omega
      have HMX := Lib.hid hmx
      clear hmx
      by_cases hle : x.at_ ≤ now
      · rw [if_pos hle, if_pos hle] at hdl
        have HDL := Lib.hid hdl
        have HLE := Lib.hid hle
        have HKS := Lib.hid hks
        obtain ⟨n, hn⟩ : ∃ n, (keysL done).length = n := ⟨_, rfl⟩
        have hn64 : n ≤ 64 := by rw [← hn]; unfold keysL; rw [List.length_map]; omega
        have hrow : wr.ownsRow w.heap.size 3 1 u5 n ((keysL done).map (Value.int .i64)) := by
          have h5 := HI.out.out
          unfold NewI at h5
          rw [hn] at h5
          exact h5
        have HRW := Lib.hid hrow
        have HLN := Lib.hid hn
        have hsz := HI.out.k.size
        have hob : ∀ y ∈ u5.ownBlock.toList, w.heap.size ≤ y := fun y hy => HI.out.out.block y (by simpa using hy)
        have hto : t ∉ u5.ownBlock.toList := fun hm => by have := hob t hm; omega
        have hgo : g ∉ u5.ownBlock.toList := fun hm => by have := hob g hm; omega
        have hnr : ∀ (W : World), Keeps u5.ownBlock.toList wr W → W.cell? ⟨t, 0, none⟩ = some (.slice (some ⟨g, off, none⟩) M c) ∧ W.frozen? ⟨t, 0, none⟩ = false := fun W hk => ⟨(hk.cell (p := ⟨t, 0, none⟩) HI.out.rt.head.lt hto).trans ct, (HI.out.rt.head.keeps hk hto).frozen 0⟩
        have HOB := Lib.hid (And.intro hob (And.intro hto hgo))
        obtain ⟨a2, c2, hv2, _⟩ := hks
        subst hv2
        clear hob hto hgo
        have HNR := Lib.hid hnr
        have HHM := Lib.hid hM
        clear hdl hn hrow hnr hM
        go_wp2_with (at_builtin; refine wpList_append_lies _ rfl _ _ _ (by rfl) w.heap.size 3 i0 _ 1 8 Try.underlying32 hi hz0 hz1 hz2 rfl (by omega) u5 n _ (by rfl) (World.ownsRow.alloc HRW.out _) ⟨wr.heap.size, 0, none⟩ 1 1 _ (by rfl) (by rfl) (World.news_of_block (heap_alloc_new _ _)) (by simp [Value.oneCell']) (by omega) (by unfold maxLen; omega) (by omega) (by simp; omega) (wr.heap.size + 1) (by simp) ?_; intro g2 cap2 w4 hown1 hgrow hat hlt2; have k4 : Keeps u5.ownBlock.toList wr w4 := ((Keeps.refl _ wr).alloc _).grown hgrow (fun j hj => .inl (by simp [hj])); obtain ⟨ct4, ft4⟩ := HNR.out w4 k4; have K4 := Lib.hid k4; have HO4 := Lib.hid hown1; clear k4 hown1 hgrow)
        go_roundg l.length
        case rel =>
          have kt : Keeps [t] w4 (w4.setCell ⟨t, 0, none⟩ (.slice a2 l.length c2)) := (Keeps.refl [t] w4).setCell (p := ⟨t, 0, none⟩) (.inl (by simp)) _
          refine ⟨done ++ [x], l, .slice a2 l.length c2, rfl, Lib.hid ⟨⟨(HI.out.rt.head.keeps K4.out HOB.out.2.1).set_ 0 _, (HKS.out.keeps K4.out HOB.out.2.2).keeps kt (by simpa using hgt), fun _ => hgt, HMX.out⟩, ?_, ?_, ?_, ?_⟩⟩
          · refine NewI.keeps (S := [t]) (A := w4) ?_ kt (by simp; omega)
            unfold NewI
            rw [keysL_append, List.map_append, List.length_append, HLN.out]
            exact HO4.out
          · exact (HI.out.k.trans' K4.out (fun y hy => .inr (HOB.out.1 y hy))).trans kt
          · rw [← HI.out.split]; simp
          · intro y hy
            rcases List.mem_append.1 hy with h1 | h1
            · exact HI.out.le y h1
            · simp only [List.mem_singleton] at h1; subst h1; exact HLE.out
        case measure => simp
      · rw [if_neg hle, if_neg hle, List.append_nil] at hdl
        have hld : decide (x.at_ ≤ now) = false := decide_eq_false hle
        have HDL := Lib.hid hdl
        clear hdl
        go_wp2
        go_ret
        have h1 := HI.out.out
        rw [← HDL.out.1, HYS.out] at h1
        exact ⟨⟨_, rfl, h1⟩, ⟨.slice (some ⟨g, off, none⟩) (l.length + 1) c, by rw [HDL.out.2]; exact HI.out.rt⟩, HI.out.k⟩
end Go.Proofs.Ytkkajcakgihckaa
