/- The walks of heap's up and down. -/
import Derived.Test.YtkkajcakgihckaaTimB
import Derived.Deep.LoopGhost
import Derived.Shelf.RegionOpen
namespace Go.Proofs.Ytkkajcakgihckaa
open Go.RowKit
attribute [local go_sem] Oper.semAt_some
attribute [local go_sem ↓] Go.wp_at_zero Go.wp_at_succ

theorem e_len : ∀ args w, (callFunc 28 args).run Try.prog w = .ok (.enter 28 args) w := enters_of Try.func28 (by kernel_rfl) rfl
theorem e_less : ∀ args w, (callFunc 83 args).run Try.prog w = .ok (.enter 83 args) w := enters_of Try.func83 (by kernel_rfl) rfl
theorem e_swap : ∀ args w, (callFunc 86 args).run Try.prog w = .ok (.enter 86 args) w := enters_of Try.func86 (by kernel_rfl) rfl
theorem e_push : ∀ args w, (callFunc 85 args).run Try.prog w = .ok (.enter 85 args) w := enters_of Try.func85 (by kernel_rfl) rfl
theorem e_pop : ∀ args w, (callFunc 84 args).run Try.prog w = .ok (.enter 84 args) w := enters_of Try.func84 (by kernel_rfl) rfl

set_option maxRecDepth 100000 in
set_option maxHeartbeats 1000000 in
theorem up_any (S : List Nat) (t m g cap N n : Nat) (f : Nat → EnB) (j : Nat) (w : World) (h : HR w S t m g cap N f) (hn : n ≤ N) (hu : UpI EnB.le f n j) :
    Calls Try.prog 46 #[.iface 77 (.pointer (some ⟨t, 0, none⟩)), .int .i64 j] w fun e w' => e = .returned (.tuple #[]) ∧ ∃ f', HR w' S t m g cap N f' ∧ Heap EnB.le f' n ∧ (lst f' n).Perm (lst f n) ∧ (∀ k, n ≤ k → f' k = f k) ∧ Keeps S w w' := by
  have eL := e_less
  have eS := e_swap
  have HH := Lib.hid h
  have HU := Lib.hid hu
  clear h hu
  go_enter Try.func46, Try.ntmps46
  go_wp2
  go_loopw [1] (fun v wr => ∃ (j : Nat) (f' : Nat → EnB), v = .int .i64 j ∧ Hid (HR wr S t m g cap N f') ∧ Hid (UpI EnB.le f' n j) ∧ Hid ((lst f' n).Perm (lst f n)) ∧ Hid (∀ k, n ≤ k → f' k = f k) ∧ Hid (Keeps S w wr)) (fun v _ => (intOf v).toNat)
  case atStart => exact ⟨j, f, rfl, HH, HU, Lib.hid (.refl _), Lib.hid (fun _ _ => rfl), Lib.hid (Keeps.refl _ _)⟩
  case round =>
    obtain ⟨j2, f2, rfl, H2, U2, P2, O2, K2⟩ := hrel
    clear HH HU
    have hN := H2.out.max
    have hjn := U2.out.lt
    have hj2 : j2 < N := by omega
    rcases Nat.eq_zero_or_pos j2 with rfl | h0
    · go_wp2
      go_end0
      exact ⟨rfl, f2, H2.out, U2.out.top, P2.out, O2.out, K2.out⟩
    · obtain ⟨p, hp⟩ : ∃ p, par j2 = p := ⟨_, rfl⟩
      have hpl : p < j2 := by have := par_lt h0; omega
      have hq : Int.tdiv ((j2 : Int) - 1) 2 = (p : Int) := by
        rw [← hp]; unfold par; rw [Int.tdiv_eq_ediv_of_nonneg (by omega)]; omega
      have hw1 : wrap64 ((j2 : Int) - 1) = (j2 : Int) - 1 := IntWalk.wrap64_in _ ⟨by omega, by omega⟩
      have hw2 : wrap64 (p : Int) = (p : Int) := IntWalk.wrap64_in _ ⟨by omega, by omega⟩
      have hne : ((p : Int) == (j2 : Int)) = false := by simp; omega
      have HP := Lib.hid hp
      have mL := m_less H2.out.c0
      by_cases hle : EnB.le (f2 p) (f2 j2)
      · have hl := H2.out.less (i := j2) (j := p) hj2 (by omega) (r := false) (by simp [hle])
        clear hp h0 hj2 hN hjn
        go_wp2_with (go_at_call 83; refine hl.mono ?_; rintro e w3 ⟨rfl, h3, k3⟩)
        go_end0
        exact ⟨rfl, f2, h3, U2.out.stop (by rw [HP.out]; exact hle), P2.out, O2.out, K2.out.trans k3⟩
      · have hl := H2.out.less (i := j2) (j := p) hj2 (by omega) (r := true) (by simp [hle])
        have HU3 : Hid (UpI EnB.le (swp f2 p j2) n p) := Lib.hid (by have := U2.out.step EnB.le_tot EnB.le_tr h0 (by rw [hp]; exact hle); rwa [hp] at this)
        have HP3 : Hid ((lst (swp f2 p j2) n).Perm (lst f n)) := Lib.hid ((swp_perm f2 (by omega) hjn).trans P2.out)
        have HO3 : Hid (∀ k, n ≤ k → swp f2 p j2 k = f k) := Lib.hid (fun k hk => (swp_o f2 (by omega) (by omega)).trans (O2.out k hk))
        have HB := Lib.hid hpl
        have HJ := Lib.hid hj2
        clear hp h0 hj2 hN hjn
        go_wp2_with (first
          | (go_at_call 83; refine hl.mono ?_; rintro e w3 ⟨rfl, h3, k3⟩; have mS := m_swap h3.c0; have hs := h3.swap (i := p) (j := j2) (Nat.lt_trans HB.out HJ.out) HJ.out (Nat.ne_of_lt HB.out); clear hl mL; replace h3 := Lib.hid h3)
          | (go_at_call 86; refine hs.mono ?_; rintro e w4 ⟨rfl, h4, k4⟩; clear hs mS))
        go_roundw
        case rel => exact ⟨p, _, rfl, Lib.hid h4, HU3, HP3, HO3, Lib.hid ((K2.out.trans k3).trans k4)⟩
        case measure => simp [intOf]; exact hpl

theorem down_end {f f2 : Nat → EnB} {n i j : Nat} {b r : Bool} (hr : r = true ↔ i < j) (hij : i ≤ j) (D : DnI EnB.le f2 n j (b || decide (i < j))) (E : i < j ∨ f2 = f) (hst : ∀ k, 0 < k → k < n → par k = j → EnB.le (f2 j) (f2 k)) :
    (r = true ∨ f2 = f) ∧ (r = true ∨ b = true → Heap EnB.le f2 n) ∧ (i < n → UpI EnB.le f2 n i ∨ r = true) := by
  refine ⟨E.imp hr.2 id, fun h => ?_, fun h => ?_⟩
  · have hb : (b || decide (i < j)) = true := by
      rcases h with h | h
      · simp [hr.1 h]
      · simp [h]
    rw [hb] at D
    exact D.heap hst
  · by_cases e : i < j
    · exact .inr (hr.2 e)
    · obtain rfl : i = j := by omega
      exact .inl (D.stop hst h)

/-- What down leaves behind. -/
def DownPost (S : List Nat) (t m g cap N n i : Nat) (b : Bool) (f : Nat → EnB) (w : World) (e : Ending) (w' : World) : Prop :=
  ∃ r f', e = .returned (.bool r) ∧ HR w' S t m g cap N f' ∧ (∀ k, n ≤ k → f' k = f k) ∧ (lst f' n).Perm (lst f n) ∧
    (r = true ∨ f' = f) ∧ (r = true ∨ b = true → Heap EnB.le f' n) ∧ (i < n → UpI EnB.le f' n i ∨ r = true) ∧ Keeps S w w'

set_option maxRecDepth 100000 in
set_option maxHeartbeats 1000000 in
theorem down_any (S : List Nat) (t m g cap N : Nat) (f : Nat → EnB) (i n : Nat) (b : Bool) (w : World) (h : HR w S t m g cap N f) (hn : n ≤ N) (hin : i ≤ n) (hd : DnI EnB.le f n i b) :
    Calls Try.prog 45 #[.iface 77 (.pointer (some ⟨t, 0, none⟩)), .int .i64 i, .int .i64 n] w fun e w' => DownPost S t m g cap N n i b f w e w' := by
  have eL := e_less
  have eS := e_swap
  have HH := Lib.hid h
  have HD := Lib.hid hd
  clear h hd
  go_enter Try.func45, Try.ntmps45
  go_wp2
  go_loopw [7] (fun v wr => ∃ (j : Nat) (f' : Nat → EnB), v = .int .i64 j ∧ i ≤ j ∧ j ≤ n ∧ Hid (HR wr S t m g cap N f') ∧ Hid (DnI EnB.le f' n j (b || decide (i < j))) ∧ Hid (∀ k, n ≤ k → f' k = f k) ∧ Hid (i < j ∨ f' = f) ∧ Hid ((lst f' n).Perm (lst f n)) ∧ Hid (Keeps S w wr)) (fun v _ => n - (intOf v).toNat)
  case atStart => exact ⟨i, f, rfl, Nat.le_refl _, hin, HH, by simpa using HD, Lib.hid (fun _ _ => rfl), Lib.hid (.inr rfl), Lib.hid (.refl _), Lib.hid (Keeps.refl _ _)⟩
  case round =>
    obtain ⟨j, f2, rfl, hij, hjn, H2, D2, O2, E2, P2, K2⟩ := hrel
    clear HH HD
    have hN := H2.out.max
    obtain ⟨a, ha⟩ : ∃ a, 2 * j + 1 = a := ⟨_, rfl⟩
    obtain ⟨q, hq⟩ : ∃ q, a + 1 = q := ⟨_, rfl⟩
    have kids : ∀ k, 0 < k → k < n → par k = j → k = a ∨ k = q := fun k h1 h2 h3 => by unfold par at h3; omega
    have hpa : par a = j := by unfold par; omega
    have hpq : par q = j := by unfold par; omega
    have hw0 : wrap64 (2 * (j : Int)) = 2 * (j : Int) := IntWalk.wrap64_in _ ⟨by omega, by omega⟩
    have hw1 : wrap64 (2 * (j : Int) + 1) = (a : Int) := by rw [show (2 * (j : Int) + 1) = (a : Int) by omega]; exact IntWalk.wrap64_in _ ⟨by omega, by omega⟩
    have hw2 : wrap64 ((a : Int) + 1) = (q : Int) := by rw [show ((a : Int) + 1) = (q : Int) by omega]; exact IntWalk.wrap64_in _ ⟨by omega, by omega⟩
    have hz : ¬ (a : Int) < 0 := by omega
    have KK := Lib.hid (show (∀ k, 0 < k → k < n → par k = j → k = a ∨ k = q) ∧ par a = j ∧ par q = j ∧ 2 * j + 1 = a ∧ a + 1 = q ∧ j ≤ n ∧ n ≤ N ∧ N ≤ 64 ∧ i ≤ j from ⟨kids, hpa, hpq, ha, hq, hjn, hn, hN, hij⟩)
    clear kids hpa hpq ha hq
    by_cases hA : n ≤ a
    · have hA' : (n : Int) ≤ (a : Int) := by omega
      clear hjn hN
      go_wp2
      go_ret
      have hst : ∀ k, 0 < k → k < n → par k = j → EnB.le (f2 j) (f2 k) := fun k h1 h2 h3 => by
        obtain ⟨kids, _⟩ := KK.out
        have := kids k h1 h2 h3
        omega
      have he := down_end (r := decide (i < j)) (by simp) hij D2.out E2.out hst
      exact ⟨_, f2, rfl, H2.out, O2.out, P2.out, he.1, he.2.1, he.2.2, K2.out⟩
    · have hA' : ¬ (n : Int) ≤ (a : Int) := by omega
      have mL := m_less H2.out.c0
      by_cases c1 : q < n ∧ ¬ EnB.le (f2 a) (f2 q)
      · obtain ⟨hqn, hle1⟩ := c1
        have hqi : (q : Int) < (n : Int) := by omega
        have hl := H2.out.less (i := q) (j := a) (by omega) (by omega) (r := true) (by simp [hle1])
        have hmin : Hid (∀ k, 0 < k → k < n → par k = j → EnB.le (f2 q) (f2 k)) := Lib.hid (fun k h1 h2 h3 => by
          rcases KK.out.1 k h1 h2 h3 with rfl | rfl
          · exact (EnB.le_tot _ _).resolve_left hle1
          · exact Ke.le_rf _)
        have HC : Hid (0 < q ∧ q < n ∧ par q = j ∧ j < q) := Lib.hid (by obtain ⟨_, h1, h2, h3, h4, _⟩ := KK.out; refine ⟨by omega, by omega, by assumption, by omega⟩)
        clear hjn hN
        by_cases hle : EnB.le (f2 j) (f2 q)
        · have HLE := Lib.hid hle
          clear hle hle1
          go_wp2_with (first
            | (go_at_call 83; refine hl.mono ?_; rintro e w3 ⟨rfl, h3, k3⟩; clear hl mL; have mL := m_less h3.c0; have hl2 := h3.less (i := q) (j := j) (Nat.lt_of_lt_of_le HC.out.2.1 hn) (Nat.lt_of_lt_of_le (Nat.lt_trans HC.out.2.2.2 HC.out.2.1) hn) (r := false) (by simp [HLE.out]); have HK3 : Hid (Keeps S w w3) := Lib.hid (K2.out.trans k3); clear k3 h3)
            | (go_at_call 83; refine hl2.mono ?_; rintro e w4 ⟨rfl, h4, k4⟩; clear hl2 mL; have HK4 : Hid (Keeps S w w4) := Lib.hid (HK3.out.trans k4); clear k4; replace h4 := Lib.hid h4))
          go_ret
          have hst : ∀ k, 0 < k → k < n → par k = j → EnB.le (f2 j) (f2 k) := fun k h1 h2 h3 => EnB.le_tr _ _ _ HLE.out (hmin.out k h1 h2 h3)
          have he := down_end (r := decide (i < j)) (by simp) hij D2.out E2.out hst
          exact ⟨_, f2, rfl, h4.out, O2.out, P2.out, he.1, he.2.1, he.2.2, HK4.out⟩
        · have HLE := Lib.hid hle
          clear hle hle1
          go_wp2_with (first
            | (go_at_call 83; refine hl.mono ?_; rintro e w3 ⟨rfl, h3, k3⟩; clear hl mL; have mL := m_less h3.c0; have hl2 := h3.less (i := q) (j := j) (Nat.lt_of_lt_of_le HC.out.2.1 hn) (Nat.lt_of_lt_of_le (Nat.lt_trans HC.out.2.2.2 HC.out.2.1) hn) (r := true) (by simp [HLE.out]); have HK3 : Hid (Keeps S w w3) := Lib.hid (K2.out.trans k3); clear k3 h3)
            | (go_at_call 83; refine hl2.mono ?_; rintro e w4 ⟨rfl, h4, k4⟩; clear hl2 mL; have mS := m_swap h4.c0; have hs := h4.swap (i := j) (j := q) (Nat.lt_of_lt_of_le (Nat.lt_trans HC.out.2.2.2 HC.out.2.1) hn) (Nat.lt_of_lt_of_le HC.out.2.1 hn) (Nat.ne_of_lt HC.out.2.2.2); have HK4 : Hid (Keeps S w w4) := Lib.hid (HK3.out.trans k4); clear k4; replace h4 := Lib.hid h4)
            | (go_at_call 86; refine hs.mono ?_; rintro e w5 ⟨rfl, h5, k5⟩; clear hs mS; have HK5 : Hid (Keeps S w w5) := Lib.hid (HK4.out.trans k5); clear k5; replace h5 := Lib.hid h5))
          go_roundw
          case rel =>
            obtain ⟨h1, h2, h3, h4⟩ := HC.out
            refine ⟨q, _, rfl, by omega, by omega, h5, Lib.hid ?_, Lib.hid (fun k hk => (swp_o f2 (by omega) (by omega)).trans (O2.out k hk)), Lib.hid (.inl (by omega)), Lib.hid ((swp_perm f2 (by omega) h2).trans P2.out), HK5⟩
            rw [show (b || decide (i < q)) = true by simp; right; omega]
            exact D2.out.step EnB.le_tot h1 h2 h3 hmin.out HLE.out
          case measure => have := HC.out; simp [intOf]; omega
      by_cases c2 : q < n ∧  EnB.le (f2 a) (f2 q)
      · obtain ⟨hqn, hle1⟩ := c2
        have hqi : (q : Int) < (n : Int) := by omega
        have hl := H2.out.less (i := q) (j := a) (by omega) (by omega) (r := false) (by simp [hle1])
        have hmin : Hid (∀ k, 0 < k → k < n → par k = j → EnB.le (f2 a) (f2 k)) := Lib.hid (fun k h1 h2 h3 => by
          rcases KK.out.1 k h1 h2 h3 with rfl | rfl
          · exact Ke.le_rf _
          · exact hle1)
        have HC : Hid (0 < a ∧ a < n ∧ par a = j ∧ j < a) := Lib.hid (by obtain ⟨_, h1, h2, h3, h4, _⟩ := KK.out; refine ⟨by omega, by omega, by assumption, by omega⟩)
        clear hjn hN
        by_cases hle : EnB.le (f2 j) (f2 a)
        · have HLE := Lib.hid hle
          clear hle hle1
          go_wp2_with (first
            | (go_at_call 83; refine hl.mono ?_; rintro e w3 ⟨rfl, h3, k3⟩; clear hl mL; have mL := m_less h3.c0; have hl2 := h3.less (i := a) (j := j) (Nat.lt_of_lt_of_le HC.out.2.1 hn) (Nat.lt_of_lt_of_le (Nat.lt_trans HC.out.2.2.2 HC.out.2.1) hn) (r := false) (by simp [HLE.out]); have HK3 : Hid (Keeps S w w3) := Lib.hid (K2.out.trans k3); clear k3 h3)
            | (go_at_call 83; refine hl2.mono ?_; rintro e w4 ⟨rfl, h4, k4⟩; clear hl2 mL; have HK4 : Hid (Keeps S w w4) := Lib.hid (HK3.out.trans k4); clear k4; replace h4 := Lib.hid h4))
          go_ret
          have hst : ∀ k, 0 < k → k < n → par k = j → EnB.le (f2 j) (f2 k) := fun k h1 h2 h3 => EnB.le_tr _ _ _ HLE.out (hmin.out k h1 h2 h3)
          have he := down_end (r := decide (i < j)) (by simp) hij D2.out E2.out hst
          exact ⟨_, f2, rfl, h4.out, O2.out, P2.out, he.1, he.2.1, he.2.2, HK4.out⟩
        · have HLE := Lib.hid hle
          clear hle hle1
          go_wp2_with (first
            | (go_at_call 83; refine hl.mono ?_; rintro e w3 ⟨rfl, h3, k3⟩; clear hl mL; have mL := m_less h3.c0; have hl2 := h3.less (i := a) (j := j) (Nat.lt_of_lt_of_le HC.out.2.1 hn) (Nat.lt_of_lt_of_le (Nat.lt_trans HC.out.2.2.2 HC.out.2.1) hn) (r := true) (by simp [HLE.out]); have HK3 : Hid (Keeps S w w3) := Lib.hid (K2.out.trans k3); clear k3 h3)
            | (go_at_call 83; refine hl2.mono ?_; rintro e w4 ⟨rfl, h4, k4⟩; clear hl2 mL; have mS := m_swap h4.c0; have hs := h4.swap (i := j) (j := a) (Nat.lt_of_lt_of_le (Nat.lt_trans HC.out.2.2.2 HC.out.2.1) hn) (Nat.lt_of_lt_of_le HC.out.2.1 hn) (Nat.ne_of_lt HC.out.2.2.2); have HK4 : Hid (Keeps S w w4) := Lib.hid (HK3.out.trans k4); clear k4; replace h4 := Lib.hid h4)
            | (go_at_call 86; refine hs.mono ?_; rintro e w5 ⟨rfl, h5, k5⟩; clear hs mS; have HK5 : Hid (Keeps S w w5) := Lib.hid (HK4.out.trans k5); clear k5; replace h5 := Lib.hid h5))
          go_roundw
          case rel =>
            obtain ⟨h1, h2, h3, h4⟩ := HC.out
            refine ⟨a, _, rfl, by omega, by omega, h5, Lib.hid ?_, Lib.hid (fun k hk => (swp_o f2 (by omega) (by omega)).trans (O2.out k hk)), Lib.hid (.inl (by omega)), Lib.hid ((swp_perm f2 (by omega) h2).trans P2.out), HK5⟩
            rw [show (b || decide (i < a)) = true by simp; right; omega]
            exact D2.out.step EnB.le_tot h1 h2 h3 hmin.out HLE.out
          case measure => have := HC.out; simp [intOf]; omega
      · have hqn : ¬ q < n := fun e => by
            rcases Classical.em (EnB.le (f2 a) (f2 q)) with e2 | e2
            · exact c2 ⟨e, e2⟩
            · exact c1 ⟨e, e2⟩
        have hqi : ¬ (q : Int) < (n : Int) := by omega
        have hqd : decide ((q : Int) < (n : Int)) = false := decide_eq_false hqi
        have hmin : Hid (∀ k, 0 < k → k < n → par k = j → EnB.le (f2 a) (f2 k)) := Lib.hid (fun k h1 h2 h3 => by
          rcases KK.out.1 k h1 h2 h3 with rfl | rfl
          · exact Ke.le_rf _
          · exact absurd h2 hqn)
        have HC : Hid (0 < a ∧ a < n ∧ par a = j ∧ j < a) := Lib.hid (by obtain ⟨_, h1, h2, h3, h4, _⟩ := KK.out; refine ⟨by omega, by omega, by assumption, by omega⟩)
        clear hjn hN
        by_cases hle : EnB.le (f2 j) (f2 a)
        · have HLE := Lib.hid hle
          have hl2 := H2.out.less (i := a) (j := j) (Nat.lt_of_lt_of_le HC.out.2.1 hn) (Nat.lt_of_lt_of_le (Nat.lt_trans HC.out.2.2.2 HC.out.2.1) hn) (r := false) (by simp [HLE.out])
          have HK3 : Hid (Keeps S w wr) := K2
          clear hle
          go_wp2_with (first
            | (go_at_call 83; refine hl2.mono ?_; rintro e w4 ⟨rfl, h4, k4⟩; clear hl2 mL; have HK4 : Hid (Keeps S w w4) := Lib.hid (HK3.out.trans k4); clear k4; replace h4 := Lib.hid h4))
          go_ret
          have hst : ∀ k, 0 < k → k < n → par k = j → EnB.le (f2 j) (f2 k) := fun k h1 h2 h3 => EnB.le_tr _ _ _ HLE.out (hmin.out k h1 h2 h3)
          have he := down_end (r := decide (i < j)) (by simp) hij D2.out E2.out hst
          exact ⟨_, f2, rfl, h4.out, O2.out, P2.out, he.1, he.2.1, he.2.2, HK4.out⟩
        · have HLE := Lib.hid hle
          have hl2 := H2.out.less (i := a) (j := j) (Nat.lt_of_lt_of_le HC.out.2.1 hn) (Nat.lt_of_lt_of_le (Nat.lt_trans HC.out.2.2.2 HC.out.2.1) hn) (r := true) (by simp [HLE.out])
          have HK3 : Hid (Keeps S w wr) := K2
          clear hle
          go_wp2_with (first
            | (go_at_call 83; refine hl2.mono ?_; rintro e w4 ⟨rfl, h4, k4⟩; clear hl2 mL; have mS := m_swap h4.c0; have hs := h4.swap (i := j) (j := a) (Nat.lt_of_lt_of_le (Nat.lt_trans HC.out.2.2.2 HC.out.2.1) hn) (Nat.lt_of_lt_of_le HC.out.2.1 hn) (Nat.ne_of_lt HC.out.2.2.2); have HK4 : Hid (Keeps S w w4) := Lib.hid (HK3.out.trans k4); clear k4; replace h4 := Lib.hid h4)
            | (go_at_call 86; refine hs.mono ?_; rintro e w5 ⟨rfl, h5, k5⟩; clear hs mS; have HK5 : Hid (Keeps S w w5) := Lib.hid (HK4.out.trans k5); clear k5; replace h5 := Lib.hid h5))
          go_roundw
          case rel =>
            obtain ⟨h1, h2, h3, h4⟩ := HC.out
            refine ⟨a, _, rfl, by omega, by omega, h5, Lib.hid ?_, Lib.hid (fun k hk => (swp_o f2 (by omega) (by omega)).trans (O2.out k hk)), Lib.hid (.inl (by omega)), Lib.hid ((swp_perm f2 (by omega) h2).trans P2.out), HK5⟩
            rw [show (b || decide (i < a)) = true by simp; right; omega]
            exact D2.out.step EnB.le_tot h1 h2 h3 hmin.out HLE.out
          case measure => have := HC.out; simp [intOf]; omega
end Go.Proofs.Ytkkajcakgihckaa
