/- The walks of the law's Items at any argument, and of the document's Same at texts. -/
import Derived.Test.YtbcppmcjbcnlbaaDoorSnapQ
import Derived.Deep.QuietTactic
import Derived.BigQuiet
namespace Go.Proofs.YtbcppmcjbcnlbaaDoor
open Go.RowKit Go.Shelf
attribute [local go_sem ↓] Go.wp_at_zero Go.wp_at_succ

/-- An argument: a slice of texts, nil or empty or not. -/
structure StrsArg (w : World) (a : Option Addr) (xs : List ByteArray) : Prop where
  size : ∀ x ∈ xs, x.size ≤ maxLen
  small : xs.length ≤ 9223372036854775807
  at_ : 0 < xs.length → ∃ g off, a = some ⟨g, off, none⟩ ∧ g < w.heap.size ∧ StrsAt w g off xs
theorem StrsArg.keeps {w w' : World} {a : Option Addr} {xs : List ByteArray} (h : StrsArg w a xs) (hk : Keeps [] w w') : StrsArg w' a xs :=
  ⟨h.size, h.small, fun h0 => by
    obtain ⟨g, off, ha, hg, hat⟩ := h.at_ h0
    exact ⟨g, off, ha, Nat.lt_of_lt_of_le hg hk.size, fun i hi => (hk.cell (p := ⟨g, off + i, none⟩) hg (by simp)).trans (hat i hi)⟩⟩

theorem items_nil (w : World) (c : Nat) (a : Option Addr) :
    Calls Tryd.prog 11 #[.slice a 0 c] w fun e w' => e = .returned (.slice none 0 0) ∧ w = w' := by
  go_enter Tryd.func11, Tryd.ntmps11
  go_wp2
  go_loop [3, 4] (fun v i => v = .slice none 0 0 ∧ i = .int .i64 0) (fun _ _ => 0)
  case atStart => exact ⟨rfl, rfl⟩
  case round =>
    obtain ⟨rfl, rfl⟩ := hrel
    go_wp2
    go_ret
    exact ⟨rfl, rfl⟩

theorem items_any (a : Option Addr) (c : Nat) (xs : List ByteArray) (n : Nat) (hn : xs.length = n) (w : World) (h : StrsArg w a xs) :
    Calls Tryd.prog 11 #[.slice a n c] w fun e w' => ∃ a' m c', e = .returned (.slice a' m c') ∧ (cutItems xs).length = m ∧ StrsV w' a' c' (cutItems xs) ∧ Keeps [] w w' := by
  subst hn
  rcases Nat.eq_zero_or_pos xs.length with h0 | h0
  · obtain rfl := List.eq_nil_of_length_eq_zero h0
    refine (items_nil w c a).mono ?_
    rintro e w' ⟨rfl, rfl⟩
    exact ⟨none, 0, 0, rfl, rfl, strsV_nil w, Keeps.refl _ _⟩
  · obtain ⟨g, off, rfl, hg, hat⟩ := h.at_ h0
    refine (items_some w g off c xs hat hg h.small h.size).mono ?_
    rintro e w' ⟨v, rfl, hrow, hb⟩
    obtain ⟨a', c', rfl, hs⟩ := strs_of_row hrow (by have := cutItems_len xs; omega) (fun x hx => by have := cutItems_size xs x hx; unfold maxLen; omega)
    exact ⟨a', _, c', rfl, rfl, hs, Keeps.of_below hb []⟩

theorem bytes_eq (x y : ByteArray) : (x.toList == y.toList) = true ↔ x = y := by
  simp only [beq_iff_eq, ByteArray.toList_eq]
  constructor
  · intro h3
    obtain ⟨⟨l⟩⟩ := x
    obtain ⟨⟨l'⟩⟩ := y
    have h3 : l = l' := h3
    rw [h3]
  · rintro rfl
    rfl
set_option maxRecDepth 100000 in
set_option maxHeartbeats 1000000 in
theorem samestr_any (a1 a2 : Option Addr) (c1 c2 : Nat) (xs ys : List ByteArray) (n m : Nat) (hn : xs.length = n) (hm : ys.length = m) (R : Bool) (hR : R = true ↔ xs = ys) (w : World) (h1 : StrsV w a1 c1 xs) (h2 : StrsV w a2 c2 ys) :
    Calls Tryd.prog 14 #[.slice a1 n c1, .slice a2 m c2] w fun r w' => r = .returned (.bool R) ∧ Keeps [] w w' := by
  by_cases hlen : n = m
  · subst hlen
    have hNN : n ≤ 1000000 := by rw [← hn]; exact h1.small
    have H1 := Lib.hid h1
    have H2 := Lib.hid h2
    have HN := Lib.hid hn
    have HN2 := Lib.hid hm
    have HR := Lib.hid hR
    clear h1 h2 hn hm hR
    go_enter Tryd.func14, Tryd.ntmps14
    go_wp2
    go_loopw [5] (fun i wr => ∃ k : Nat, k ≤ n ∧ i = .int .i64 k ∧ Hid (xs.take k = ys.take k) ∧ Hid (Keeps [] w wr)) (fun i _ => n - (intOf i).toNat)
    case atStart => exact ⟨0, Nat.zero_le _, rfl, Lib.hid rfl, Lib.hid (Keeps.refl [] w)⟩
    case round =>
      obtain ⟨k, hk, rfl, HE, HK⟩ := hrel
      by_cases hlt : k < n
      · have hk1 : k < xs.length := by rw [HN.out]; exact hlt
        have hk2 : k < ys.length := by rw [HN2.out]; exact hlt
        obtain ⟨g1, o1, cs1, fz1, rfl, hb1, hat1⟩ := H1.out.at_ (by rintro rfl; simp at hk1)
        obtain ⟨g2, o2, cs2, fz2, rfl, hb2, hat2⟩ := H2.out.at_ (by rintro rfl; simp at hk2)
        obtain ⟨x, hx⟩ : ∃ x, xs[k] = x := ⟨_, rfl⟩
        obtain ⟨y, hy⟩ : ∃ y, ys[k] = y := ⟨_, rfl⟩
        have q1 := hat1 k hk1
        have q2 := hat2 k hk2
        rw [hx, ← HK.out.cell (Array.getElem?_eq_some_iff.1 hb1).1 (by simp)] at q1
        rw [hy, ← HK.out.cell (Array.getElem?_eq_some_iff.1 hb2).1 (by simp)] at q2
        have i1 : (0 : Int) ≤ (k : Int) := by omega
        have i2 : (k : Int) < (n : Int) := by omega
        have HX : Hid (xs[k]? = some x) := Lib.hid (by rw [List.getElem?_eq_getElem hk1, hx])
        have HY : Hid (ys[k]? = some y) := Lib.hid (by rw [List.getElem?_eq_getElem hk2, hy])
        clear hx hy hat1 hat2 hb1 hb2 hk1 hk2
        cases hb : (x.toList == y.toList) with
        | true =>
          have hxy : x = y := (bytes_eq x y).1 hb
          have HE2 : Hid (xs.take (k + 1) = ys.take (k + 1)) := Lib.hid (by rw [take_snoc HX.out, take_snoc HY.out, HE.out, hxy])
          clear hxy
          go_wp2
          go_quiet (fail)
          go_wp2
          go_roundw
          case rel => exact ⟨k + 1, by omega, by go_num, HE2, Lib.hid (HK.out.drewN _)⟩
          case measure => simp [intOf]; omega
        | false =>
          obtain rfl : R = false := by
            cases hr : R with
            | false => rfl
            | true =>
              have e := HR.out.1 hr
              subst e
              have h1 := HX.out
              rw [HY.out] at h1
              injection h1 with h1
              rw [(bytes_eq x y).2 h1.symm] at hb
              cases hb
          go_wp2
          go_quiet (fail)
          go_wp2
          go_ret
          exact ⟨rfl, HK.out.drewN _⟩
      · obtain rfl : k = n := by omega
        obtain rfl : R = true := HR.out.2 (by
          have := HE.out
          rw [List.take_of_length_le (by rw [HN.out]; exact Nat.le_refl _), List.take_of_length_le (by rw [HN2.out]; exact Nat.le_refl _)] at this
          exact this)
        go_wp2
        go_ret
        exact ⟨rfl, HK.out⟩
  · have hne : ((n : Int) == (m : Int)) = false := by simp; omega
    obtain rfl : R = false := by
      cases hr : R with
      | false => rfl
      | true => exact absurd (by rw [← hn, ← hm, hR.1 hr]) hlen
    have s1 := h1.small
    clear hlen h1 h2 hR hn hm
    go_enter Tryd.func14, Tryd.ntmps14
    go_wp2
    go_ret
    exact ⟨rfl, Keeps.refl [] w⟩
end Go.Proofs.YtbcppmcjbcnlbaaDoor
