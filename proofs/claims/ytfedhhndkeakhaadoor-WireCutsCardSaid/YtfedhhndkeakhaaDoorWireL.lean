/- The walks of Same, cut, Cut and lay. -/
import Derived.Test.YtfedhhndkeakhaaDoorWireZ
namespace Go.Proofs.YtfedhhndkeakhaaDoor
open Go.RowKit Go.Shelf
attribute [local go_sem ↓] Go.wp_at_zero Go.wp_at_succ

/-- From cell off of block g on lie these frames. -/
def FrsAt (w : World) (g off : Nat) (L : List Fr) : Prop := ∀ i (h : i < L.length),
  w.cell? ⟨g, off + i * 3, none⟩ = some (.int .i64 L[i].kind) ∧ w.cell? ⟨g, off + i * 3 + 1, none⟩ = some (.int .i64 L[i].stream) ∧ w.cell? ⟨g, off + i * 3 + 2, none⟩ = some (.string L[i].data)
/-- The slice at a holds these frames. -/
def FrsIn (w : World) (a : Option Addr) (L : List Fr) : Prop := L ≠ [] → ∃ g off, a = some ⟨g, off, none⟩ ∧ g < w.heap.size ∧ FrsAt w g off L
theorem FrsIn.keeps {w w' : World} {a : Option Addr} {L : List Fr} (h : FrsIn w a L) (hk : Keeps [] w w') : FrsIn w' a L := fun hn => by
  obtain ⟨g, off, ha, hg, hat⟩ := h hn
  exact ⟨g, off, ha, Nat.lt_of_lt_of_le hg hk.size, fun i hi => by
    have hc := fun j => hk.cell (p := ⟨g, j, none⟩) hg (by simp)
    rw [hc, hc, hc]; exact hat i hi⟩
theorem FrsIn.take {w : World} {a : Option Addr} {L : List Fr} (h : FrsIn w a L) (k : Nat) : FrsIn w a (L.take k) := fun hn => by
  obtain ⟨g, off, ha, hg, hat⟩ := h (by rintro rfl; simp at hn)
  exact ⟨g, off, ha, hg, fun i hi => by
    have hi2 : i < L.length := by simp at hi; omega
    have := hat i hi2
    simpa using this⟩
theorem frs_cell : ∀ (L : List Fr) (i : Nat) (h : i < L.length), (L.flatMap Fr.cl)[i * 3]? = some (.int .i64 L[i].kind) ∧ (L.flatMap Fr.cl)[i * 3 + 1]? = some (.int .i64 L[i].stream) ∧ (L.flatMap Fr.cl)[i * 3 + 2]? = some (.string L[i].data)
  | x :: L, 0, _ => ⟨rfl, rfl, rfl⟩
  | x :: L, i + 1, h => by
    have ih := frs_cell L i (by simpa using h)
    have e : (x :: L).flatMap Fr.cl = .int .i64 x.kind :: .int .i64 x.stream :: .string x.data :: L.flatMap Fr.cl := rfl
    rw [e]
    have e3 : (i + 1) * 3 = i * 3 + 1 + 1 + 1 := by omega
    rw [e3]
    refine ⟨?_, ?_, ?_⟩
    · simpa using ih.1
    · simpa using ih.2.1
    · simpa using ih.2.2
theorem frs_of_row {w : World} {B : Nat} {v : Value} {L : List Fr} (h : w.ownsRow B 23 3 v L.length (L.flatMap Fr.cl)) : ∃ a c, v = .slice a L.length c ∧ L.length ≤ c ∧ FrsIn w a L := by
  obtain ⟨h1, h2⟩ := h
  rcases h2 with ⟨rfl, h2⟩ | ⟨g, cap, cur, rfl, h3, h4, h5, h6, h7, h8⟩
  · exact ⟨none, 0, by rw [h2], by omega, fun hn => absurd (List.eq_nil_of_length_eq_zero h2) hn⟩
  · refine ⟨some ⟨g, 0, none⟩, cap, rfl, h5, fun _ => ⟨g, 0, rfl, (Array.getElem?_eq_some_iff.1 h4).1, fun i hi => ?_⟩⟩
    have hc : ∀ j x, (L.flatMap Fr.cl)[j]? = some x → w.cell? ⟨g, 0 + j, none⟩ = some x := fun j x hj => by
      rw [Nat.zero_add, cell_of_row w g j cur 23 (0, 0) h4]
      rw [← h8, List.getElem?_take] at hj
      split at hj
      · simpa using hj
      · cases hj
    obtain ⟨q1, q2, q3⟩ := frs_cell L i hi
    exact ⟨hc _ _ q1, hc _ _ q2, hc _ _ q3⟩

set_option maxRecDepth 100000 in
set_option maxHeartbeats 1000000 in
theorem same_any (a1 a2 : Option Addr) (c1 c2 : Nat) (L1 L2 : List Fr) (R : Bool) (hR : R = true ↔ L1 = L2) (w : World) (h1 : FrsIn w a1 L1) (h2 : FrsIn w a2 L2) (hl1 : L1.length ≤ 1000000) (hl2 : L2.length ≤ 1000000) :
    Calls Tryd.prog 25 #[.slice a1 L1.length c1, .slice a2 L2.length c2] w fun r w' => r = .returned (.bool R) ∧ Keeps [] w w' := by
  by_cases hlen : L1.length = L2.length
  · have hne : ((L1.length : Int) == (L2.length : Int)) = true := by simp [hlen]
    by_cases hnil : L1 = []
    · subst hnil
      obtain rfl : L2 = [] := List.eq_nil_of_length_eq_zero hlen.symm
      obtain rfl : R = true := hR.2 rfl
      clear h1 h2
      go_enter Tryd.func25, Tryd.ntmps25
      go_wp2
      go_loop [5] (fun i => i = .int .i64 0) (fun _ => 0)
      case atStart => rfl
      case round =>
        subst hrel
        go_wp2
        go_ret
        exact ⟨rfl, Keeps.refl [] w⟩
    · obtain ⟨g1, o1, rfl, hg1, hat1⟩ := h1 hnil
      obtain ⟨g2, o2, rfl, hg2, hat2⟩ := h2 (by rintro rfl; exact hnil (List.eq_nil_of_length_eq_zero hlen))
      obtain ⟨N, hN⟩ : ∃ N, L1.length = N := ⟨_, rfl⟩
      have HN := Lib.hid hN
      have HN2 : Hid (L2.length = N) := Lib.hid (by omega)
      have HA1 := Lib.hid hat1
      have HA2 := Lib.hid hat2
      have HR := Lib.hid hR
      have hNN : N ≤ 1000000 := by omega
      have hgu := fr_guard
      rw [HN2.out, hN]
      clear hnil hlen hne h1 h2 hat1 hat2 hR hl1 hl2 hN
      go_enter Tryd.func25, Tryd.ntmps25
      go_wp2
      go_loopw [5] (fun i wr => ∃ k : Nat, k ≤ N ∧ i = .int .i64 k ∧ Hid (L1.take k = L2.take k) ∧ Hid (Keeps [] w wr)) (fun i _ => N - (intOf i).toNat)
      case atStart => exact ⟨0, Nat.zero_le _, rfl, Lib.hid rfl, Lib.hid (Keeps.refl [] w)⟩
      case round =>
        obtain ⟨k, hk, rfl, HE, HK⟩ := hrel
        by_cases hlt : k < N
        · have hk1 : k < L1.length := by rw [HN.out]; exact hlt
          have hk2 : k < L2.length := by rw [HN2.out]; exact hlt
          have q1 := HA1.out k hk1
          have q2 := HA2.out k hk2
          obtain ⟨x, hx⟩ : ∃ x, L1[k] = x := ⟨_, rfl⟩
          obtain ⟨y, hy⟩ : ∃ y, L2[k] = y := ⟨_, rfl⟩
          rw [hx] at q1
          rw [hy] at q2
          obtain ⟨p0, p1, p2⟩ := q1
          obtain ⟨r0, r1, r2⟩ := q2
          rw [← HK.out.cell (by exact hg1) (by simp)] at p0 p1 p2
          rw [← HK.out.cell (by exact hg2) (by simp)] at r0 r1 r2
          have i1 : (0 : Int) ≤ (k : Int) := by omega
          have i2 : (k : Int) < (N : Int) := by omega
          obtain ⟨b, hb⟩ : ∃ b, (!frB x y) = b := ⟨_, rfl⟩
          have hne := fr_neq x y b hb
          have HX := Lib.hid hx
          have HY := Lib.hid hy
          have HB := Lib.hid hb
          clear hx hy hb
          cases b with
          | true =>
            obtain rfl : R = false := by
              cases hr : R with
              | false => rfl
              | true =>
                have e := HR.out.1 hr
                subst e
                have : x = y := by rw [← HX.out, ← HY.out]
                have hb := HB.out
                rw [(frB_iff x y).2 this] at hb
                cases hb
            go_wp2
            go_quiet (fail)
            go_wp2
            go_ret
            exact ⟨rfl, HK.out.drewN _⟩
          | false =>
            have hxy : x = y := (frB_iff x y).1 (by have := HB.out; simpa using this)
            have HE2 : Hid (L1.take (k + 1) = L2.take (k + 1)) := Lib.hid (by
              rw [List.take_succ_eq_append_getElem (by rw [HN.out]; exact hlt), List.take_succ_eq_append_getElem (by rw [HN2.out]; exact hlt), HE.out, HX.out, HY.out, hxy])
            clear hxy
            go_wp2
            go_quiet (fail)
            go_wp2
            go_roundw
            case rel => exact ⟨k + 1, by omega, by go_num, HE2, Lib.hid (HK.out.drewN _)⟩
            case measure => simp [intOf]; omega
        · obtain rfl : k = N := by omega
          obtain rfl : R = true := HR.out.2 (by
            have := HE.out
            rw [List.take_of_length_le (by rw [HN.out]; exact Nat.le_refl _), List.take_of_length_le (by rw [HN2.out]; exact Nat.le_refl _)] at this
            exact this)
          go_wp2
          go_ret
          exact ⟨rfl, HK.out⟩
  · have hne : ((L1.length : Int) == (L2.length : Int)) = false := by simp; omega
    obtain rfl : R = false := by
      cases hr : R with
      | false => rfl
      | true => exact absurd (by rw [hR.1 hr]) hlen
    clear hlen h1 h2 hR
    go_enter Tryd.func25, Tryd.ntmps25
    go_wp2
    go_ret
    exact ⟨rfl, Keeps.refl [] w⟩

/-- A text's first two thousand bytes. -/
def cutS (s : ByteArray) : ByteArray := s.extract 0 (min s.size 2000)
theorem cutS_size (s : ByteArray) : (cutS s).size ≤ 2000 := by unfold cutS; rw [extract_size]; omega
theorem cut_any (s : ByteArray) (hs : s.size ≤ maxLen) (w : World) :
    Calls Tryd.prog 12 #[.string s] w fun r w' => r = .returned (.string (cutS s)) ∧ w = w' := by
  unfold maxLen at hs
  unfold cutS
  rcases Nat.lt_or_ge 2000 s.size with hz | hz
  · have hzi : (2000 : Int) < (s.size : Int) := by omega
    rw [Nat.min_eq_right (by omega)]
    have hle : (2000 : Int) ≤ (s.size : Int) := by omega
    clear hz
    go_enter Tryd.func12, Tryd.ntmps12
    go_wp2
    go_ret
    exact ⟨rfl, rfl⟩
  · have hzi : ¬ (2000 : Int) < (s.size : Int) := by omega
    rw [Nat.min_eq_left (by omega)]
    clear hz
    go_enter Tryd.func12, Tryd.ntmps12
    go_wp2
    go_ret
    exact ⟨rfl, rfl⟩
end Go.Proofs.YtfedhhndkeakhaaDoor
