/- The walk of the document's Right of a pool. -/
import Derived.Test.YtbcppmcjbcnlbaaDoorSnapRA
import Derived.Test.YtbcppmcjbcnlbaaDoorSnapW
namespace Go.Proofs.YtbcppmcjbcnlbaaDoor
open Go.RowKit Go.Shelf
attribute [local go_sem ↓] Go.wp_at_zero Go.wp_at_succ

/-- The first k listings are right; the last one's time. -/
structure RI (L : List Sn) (next : Int) (k : Nat) (last : Int) : Prop where
  wh : ∀ s ∈ L.take k, itemsB s.items = true
  cur : ∀ s ∈ L.take k, 1 ≤ s.cur ∧ s.cur < next
  ap : (L.take k).Pairwise fun s t => s.cur ≠ t.cur
  so : (L.take k).Pairwise fun s t => s.used ≤ t.used
  us : ∀ s ∈ L.take k, 0 ≤ s.used ∧ s.used ≤ 1000000000000 ∧ s.used ≤ last
  l0 : 0 ≤ last
  at_ : (k = 0 ∧ last = 0) ∨ ∃ s ∈ L.take k, s.used = last
theorem RI.zero (L : List Sn) (next : Int) : RI L next 0 0 := ⟨by simp, by simp, by simp, by simp, by simp, by omega, .inl ⟨rfl, rfl⟩⟩
theorem mem_take {α : Type} {L : List α} {k : Nat} {x : α} (h : x ∈ L.take k) : x ∈ L := List.mem_of_mem_take h
theorem RI.succ {L : List Sn} {next : Int} {k : Nat} {last : Int} (h : RI L next k last) {s : Sn} (hs : L[k]? = some s) (h1 : itemsB s.items = true) (h2 : 1 ≤ s.cur) (h3 : s.cur < next) (h4 : last ≤ s.used) (h5 : s.used ≤ 1000000000000) (h6 : ∀ t ∈ L.take k, t.cur ≠ s.cur) : RI L next (k + 1) s.used := by
  have e := take_snoc hs
  have l0 := h.l0
  constructor
  · intro t ht; rw [e, List.mem_append, List.mem_singleton] at ht
    rcases ht with ht | rfl
    · exact h.wh t ht
    · exact h1
  · intro t ht; rw [e, List.mem_append, List.mem_singleton] at ht
    rcases ht with ht | rfl
    · exact h.cur t ht
    · exact ⟨h2, h3⟩
  · rw [e]
    exact List.pairwise_append.2 ⟨h.ap, by simp, fun t ht u hu => by obtain rfl := List.mem_singleton.1 hu; exact h6 t ht⟩
  · rw [e]
    exact List.pairwise_append.2 ⟨h.so, by simp, fun t ht u hu => by obtain rfl := List.mem_singleton.1 hu; have := (h.us t ht).2.2; omega⟩
  · intro t ht; rw [e, List.mem_append, List.mem_singleton] at ht
    rcases ht with ht | rfl
    · have := h.us t ht; omega
    · omega
  · omega
  · exact .inr ⟨s, by rw [e]; simp, rfl⟩
theorem pair_at {R : Sn → Sn → Prop} {L : List Sn} (h : L.Pairwise R) {k : Nat} {s t : Sn} (hs : L[k]? = some s) (ht : t ∈ L.take k) : R t s := by
  have h1 : (L.take (k + 1)).Pairwise R := h.sublist (List.take_sublist _ _)
  rw [take_snoc hs] at h1
  exact (List.pairwise_append.1 h1).2.2 t ht s (by simp)
theorem RI.bad_items {L : List Sn} {next : Int} {k : Nat} {s : Sn} (hs : L[k]? = some s) (h1 : itemsB s.items = false) (h : Ok ⟨L, next⟩) : False := by
  have := h.wh s (List.mem_of_getElem? hs)
  rw [h1] at this; cases this
theorem RI.bad_cur {L : List Sn} {next : Int} {k : Nat} {s : Sn} (hs : L[k]? = some s) (h1 : s.cur < 1 ∨ next ≤ s.cur) (h : Ok ⟨L, next⟩) : False := by
  have := h.cur s (List.mem_of_getElem? hs)
  dsimp only at this; omega
theorem RI.bad_used {L : List Sn} {next : Int} {k : Nat} {last : Int} {s : Sn} (hr : RI L next k last) (hs : L[k]? = some s) (h1 : s.used < last ∨ 1000000000000 < s.used) (h : Ok ⟨L, next⟩) : False := by
  have h2 := h.us s (List.mem_of_getElem? hs)
  rcases hr.at_ with ⟨_, rfl⟩ | ⟨t, ht, rfl⟩
  · omega
  · have := pair_at h.so hs ht; omega
theorem RI.bad_ap {L : List Sn} {next : Int} {k j : Nat} {s t : Sn} (hs : L[k]? = some s) (ht : L[j]? = some t) (hj : j < k) (h1 : t.cur = s.cur) (h : Ok ⟨L, next⟩) : False := by
  refine pair_at (R := fun s t => s.cur ≠ t.cur) h.ap hs (t := t) ?_ h1
  rw [List.mem_take_iff_getElem]
  obtain ⟨hl, e⟩ := List.getElem?_eq_some_iff.1 ht
  have hl' : j < L.length := hl
  have hk' : k < L.length := (List.getElem?_eq_some_iff.1 hs).1
  exact ⟨j, by dsimp only; omega, e⟩
theorem RI.done {L : List Sn} {next : Int} {last : Int} {n : Nat} (h : RI L next n last) (hn : L.length = n) : Ok ⟨L, next⟩ ↔ 1 ≤ next ∧ next ≤ 1000000000000 ∧ n ≤ 3 := by
  have e : L.take n = L := List.take_of_length_le (by omega)
  obtain ⟨h1, h2, h3, h4, h5, _, _⟩ := h
  rw [e] at h1 h2 h3 h4 h5
  constructor
  · intro ho
    exact ⟨ho.n1, ho.n2, by have := ho.len; dsimp only at this; omega⟩
  · rintro ⟨n1, n2, n3⟩
    exact ⟨n1, n2, by dsimp only; omega, h2, h3, fun s hs => ⟨(h5 s hs).1, (h5 s hs).2.1⟩, h4, h1⟩

set_option maxRecDepth 100000 in
set_option maxHeartbeats 4000000 in
theorem right16_any (a : Option Addr) (c : Nat) (V : List SV) (p : Po) (n : Nat) (hn : V.length = n) (w : World) (hP : PoolV w a c V p) (R : Bool) (hR : rightP p = R) :
    Calls Tryd.prog 18 #[.agg #[.slice a n c, .int .i64 p.next]] w fun r w' => r = .returned (.bool R) ∧ Keeps [] w w' := by
  obtain ⟨L, next⟩ := p
  dsimp only
  have hRR : R = true ↔ Ok ⟨L, next⟩ := by rw [← hR]; exact right_iff _
  have hbad : ¬ Ok ⟨L, next⟩ → R = false := fun h => by
    cases hr : R with
    | false => rfl
    | true => exact absurd (hRR.1 hr) h
  have HRR := Lib.hid hRR
  have HBAD := Lib.hid hbad
  have HP := Lib.hid hP
  have HN := Lib.hid hn
  have HLN : Hid (L.length = n) := Lib.hid (by rw [← hn]; exact hP.mt.len.symm)
  have hsm : n ≤ 1000000 := by have := hP.small; omega
  have HB0 := Lib.hid (Blk.new w 24 #[.slice a n c, .int .i64 next])
  have HK0 := Lib.hid ((Keeps.refl [] w).alloc (.cells #[.slice a n c, .int .i64 next] 24))
  obtain ⟨w0, hw0⟩ : ∃ w0, w.alloc (.cells #[.slice a n c, .int .i64 next] 24) = w0 := ⟨_, rfl⟩
  rw [hw0] at HB0 HK0
  clear hR hRR hbad hP hn
  go_enter Tryd.func18, Tryd.ntmps18
  go_wp2
  clear hw0
  go_loopw [3, 4] (fun l i wr => ∃ (k : Nat) (last : Int), k ≤ n ∧ i = .int .i64 k ∧ l = .int .i64 last ∧ Hid (RI L next k last) ∧ Hid (Keeps [] w0 wr)) (fun _ i _ => n - (intOf i).toNat)
  case atStart => exact ⟨0, 0, Nat.zero_le _, rfl, rfl, Lib.hid (RI.zero _ _), Lib.hid (Keeps.refl _ _)⟩
  case round =>
    obtain ⟨k, last, hk, rfl, rfl, HI, HK⟩ := hrel
    have z0 : wr.cell? ⟨w.heap.size, 0, none⟩ = some (.slice a n c) := (HB0.out.keeps HK.out (by simp)).cell 0
    have z1 : wr.cell? ⟨w.heap.size, 1, none⟩ = some (.int .i64 next) := (HB0.out.keeps HK.out (by simp)).cell 1
    by_cases hlt : k < n
    · have hk1 : k < V.length := by rw [HN.out]; exact hlt
      have hkL : k < L.length := by rw [HLN.out]; exact hlt
      have hm := HP.out.mt.get k hk1 hkL
      obtain ⟨g, off, cs0, fz0, rfl, hgb, hat⟩ := HP.out.row (by rintro rfl; simp at hk1)
      have hg := (Array.getElem?_eq_some_iff.1 hgb).1
      obtain ⟨y, hy⟩ : ∃ y, V[k] = y := ⟨_, rfl⟩
      obtain ⟨s, hs2⟩ : ∃ s, L[k] = s := ⟨_, rfl⟩
      have q1 := hat k hk1
      rw [hy] at q1 hm
      rw [hs2] at hm
      obtain ⟨p0, p1, p2⟩ := q1
      have hkw := HK0.out.trans HK.out
      rw [← hkw.cell (by exact hg) (by simp)] at p0 p1 p2
      have i1 : (0 : Int) ≤ (k : Int) := by omega
      have i2 : (k : Int) < (n : Int) := by omega
      have hb := Blk.new wr 39 #[.int .i64 y.cur, .slice y.ia y.il y.ic, .int .i64 y.used]
      have d0 := hb.cell 0
      have d1 := hb.cell 1
      have d2 := hb.cell 2
      have hk0 := (Keeps.refl [] wr).alloc (.cells #[.int .i64 y.cur, .slice y.ia y.il y.ic, .int .i64 y.used] 39)
      have x1 : (wr.alloc (.cells #[.int .i64 y.cur, .slice y.ia y.il y.ic, .int .i64 y.used] 39)).cell? ⟨w.heap.size, 1, none⟩ = some (.int .i64 next) := ((HB0.out.keeps HK.out (by simp)).keeps hk0 (by simp)).cell 1
      have HSV := Lib.hid (hm.2.2.2.keeps (hkw.trans hk0))
      have HIL := Lib.hid hm.2.2.1.symm
      have HLS : Hid (L[k]? = some s) := Lib.hid (by rw [List.getElem?_eq_getElem hkL, hs2])
      have HBX := Lib.hid hb
      have HKX := Lib.hid (HK.out.trans hk0)
      have HC1 : Hid (y.cur = s.cur) := Lib.hid hm.1
      have HC2 : Hid (y.used = s.used) := Lib.hid hm.2.1
      have HAT := Lib.hid hat
      have HG := Lib.hid hg
      clear hy hs2 hm hkw hb hk0 hk1 hkL hgb hat hg
      obtain ⟨b, hbb⟩ : ∃ b, itemsB s.items = b := ⟨_, rfl⟩
      have HBB := Lib.hid hbb
      clear hbb
      go_wp2_with (fail)
      refine (right16_items y.ia y.ic s.items y.il HIL.out b HBB.out _ HSV.out).mono ?_
      rintro r w1 ⟨rfl, rfl⟩
      cases b with
      | false =>
        obtain rfl : R = false := HBAD.out (RI.bad_items HLS.out HBB.out)
        go_wp2
        go_ret
        exact ⟨rfl, HK0.out.trans HKX.out⟩
      | true =>
        by_cases c1 : y.cur < 1
        · obtain rfl : R = false := HBAD.out (RI.bad_cur HLS.out (by have := HC1.out; omega))
          go_wp2
          go_ret
          exact ⟨rfl, HK0.out.trans HKX.out⟩
        · by_cases c2 : next ≤ y.cur
          · obtain rfl : R = false := HBAD.out (RI.bad_cur HLS.out (by have := HC1.out; omega))
            go_wp2
            go_ret
            exact ⟨rfl, HK0.out.trans HKX.out⟩
          · by_cases c3 : y.used < last
            · obtain rfl : R = false := HBAD.out (HI.out.bad_used HLS.out (by have := HC2.out; omega))
              go_wp2
              go_ret
              exact ⟨rfl, HK0.out.trans HKX.out⟩
            · by_cases c4 : 1000000000000 < y.used
              · obtain rfl : R = false := HBAD.out (HI.out.bad_used HLS.out (by have := HC2.out; omega))
                go_wp2
                go_ret
                exact ⟨rfl, HK0.out.trans HKX.out⟩
              · have HNX : Hid ((∀ t ∈ L.take k, t.cur ≠ s.cur) → RI L next (k + 1) y.used) := Lib.hid (fun h6 => by have h1 := HC1.out; have h2 := HC2.out; rw [h2]; exact HI.out.succ HLS.out HBB.out (by omega) (by omega) (by omega) (by omega) h6)
                go_wp2
                clear c1 c2 c3 c4
                go_loopw [6] (fun j w2 => ∃ m : Nat, m ≤ k ∧ j = .int .i64 m ∧ Hid (∀ t ∈ L.take m, t.cur ≠ s.cur) ∧ Hid (Keeps [] (wr.alloc (.cells #[.int .i64 y.cur, .slice y.ia y.il y.ic, .int .i64 y.used] 39)) w2)) (fun j _ => k - (intOf j).toNat)
                case atStart => exact ⟨0, Nat.zero_le _, rfl, Lib.hid (by simp), Lib.hid (Keeps.refl _ _)⟩
                case round =>
                  obtain ⟨m, hmk, rfl, HNE, HK2⟩ := hrel
                  have hB2 := (HBX.out.keeps HK2.out (by simp))
                  have e0 := hB2.cell 0
                  have e2 := hB2.cell 2
                  have y0 := ((HB0.out.keeps HKX.out (by simp)).keeps HK2.out (by simp)).cell 0
                  clear z0 z1 d0 d1 d2 x1 hB2
                  by_cases hml : m < k
                  · have hm1 : m < V.length := by rw [HN.out]; omega
                    have hmL : m < L.length := by rw [HLN.out]; omega
                    obtain ⟨v, hv⟩ : ∃ v, V[m] = v := ⟨_, rfl⟩
                    obtain ⟨t, ht⟩ : ∃ t, L[m] = t := ⟨_, rfl⟩
                    have q2 := (HAT.out m hm1).1
                    have hmm := (HP.out.mt.get m hm1 hmL).1
                    rw [hv] at q2 hmm
                    rw [ht] at hmm
                    rw [← ((HK0.out.trans HKX.out).trans HK2.out).cell (by exact HG.out) (by simp)] at q2
                    have HT : Hid (L[m]? = some t) := Lib.hid (by rw [List.getElem?_eq_getElem hmL, ht])
                    have HVT := Lib.hid hmm
                    have i3 : (0 : Int) ≤ (m : Int) := by omega
                    have i4 : (m : Int) < (n : Int) := by omega
                    have i5 : (m : Int) < (k : Int) := by omega
                    clear hv ht hmm hm1 hmL p0 p1 p2
                    cases hcv : (v.cur == y.cur) with
                    | true =>
                      obtain rfl : R = false := HBAD.out (RI.bad_ap HLS.out HT.out hml (by rw [← HVT.out, ← HC1.out]; simpa using hcv))
                      go_wp2
                      go_quiet (fail)
                      go_wp2
                      go_ret
                      exact ⟨rfl, HK0.out.trans ((HKX.out.trans HK2.out).drewN _)⟩
                    | false =>
                      have HNE2 : Hid (∀ u ∈ L.take (m + 1), u.cur ≠ s.cur) := Lib.hid (fun u hu => by
                        rw [take_snoc HT.out, List.mem_append, List.mem_singleton] at hu
                        rcases hu with hu | rfl
                        · exact HNE.out u hu
                        · rw [← HVT.out, ← HC1.out]; simpa using hcv)
                      go_wp2
                      go_quiet (fail)
                      go_wp2
                      go_roundw
                      case rel => exact ⟨m + 1, by omega, by go_num, HNE2, Lib.hid (HK2.out.drewN _)⟩
                      case measure => simp [intOf]; omega
                  · obtain rfl : m = k := by omega
                    have HI2 := Lib.hid (HNX.out HNE.out)
                    go_wp2
                    go_roundw
                    case rel => exact ⟨m + 1, y.used, by omega, by go_num, rfl, HI2, Lib.hid (HKX.out.trans HK2.out)⟩
                    case measure => simp [intOf]; omega
    · obtain rfl : k = n := by omega
      have hd := HRR.out.trans (HI.out.done HLN.out)
      by_cases d1 : 1 ≤ next
      · by_cases d2 : next ≤ 1000000000000
        · by_cases d3 : (k : Int) ≤ 3
          · obtain rfl : R = true := hd.2 ⟨d1, d2, by omega⟩
            clear hd
            go_wp2
            go_ret
            exact ⟨rfl, HK0.out.trans HK.out⟩
          · obtain rfl : R = false := by
              cases hr : R with
              | false => rfl
              | true => have := (hd.1 hr).2.2; omega
            clear hd
            go_wp2
            go_ret
            exact ⟨rfl, HK0.out.trans HK.out⟩
        · obtain rfl : R = false := by
            cases hr : R with
            | false => rfl
            | true => have := (hd.1 hr).2.1; omega
          clear hd
          go_wp2
          go_ret
          exact ⟨rfl, HK0.out.trans HK.out⟩
      · obtain rfl : R = false := by
          cases hr : R with
          | false => rfl
          | true => have := (hd.1 hr).1; omega
        clear hd
        go_wp2
        go_ret
        exact ⟨rfl, HK0.out.trans HK.out⟩
end Go.Proofs.YtbcppmcjbcnlbaaDoor
