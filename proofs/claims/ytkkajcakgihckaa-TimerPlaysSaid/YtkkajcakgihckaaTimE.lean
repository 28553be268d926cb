/- The walks of heap.Fix, Push, Pop, Remove over a timer's heap. -/
import Derived.Test.YtkkajcakgihckaaTimD
namespace Go.Proofs.Ytkkajcakgihckaa
open Go.RowKit
attribute [local go_sem] Oper.semAt_some
attribute [local go_sem ↓] Go.wp_at_zero Go.wp_at_succ

set_option maxRecDepth 100000 in
set_option maxHeartbeats 1000000 in
theorem hfix_any (S : List Nat) (t m g cap N : Nat) (f : Nat → EnB) (i : Nat) (w : World) (h : HR w S t m g cap N f) (hi : i < N) (hd : DnI EnB.le f N i false) :
    Calls Try.prog 34 #[.iface 77 (.pointer (some ⟨t, 0, none⟩)), .int .i64 i] w fun e w' => e = .returned (.tuple #[]) ∧ ∃ f', HR w' S t m g cap N f' ∧ Heap EnB.le f' N ∧ (lst f' N).Perm (lst f N) ∧ Keeps S w w' := by
  have eN := e_len
  have mN := m_len h.c0
  have hD := down_any S t m g cap N f i N false w h (Nat.le_refl _) (Nat.le_of_lt hi) hd
  go_enter Try.func34, Try.ntmps34
  go_wp2_with (go_at_call 28; refine (elen_any _ _ _ _).mono ?_; rintro e w3 ⟨rfl, rfl⟩)
  refine hD.mono ?_
  clear hD mN
  rintro e w1 ⟨r, f1, rfl, h1, o1, p1, e1, d1, u1, k1⟩
  cases r with
  | true =>
    have dd := d1 (.inl rfl)
    clear d1 e1 u1
    go_wp2
    go_end0
    exact ⟨rfl, f1, h1, dd, p1, k1⟩
  | false =>
    have hU := up_any S t m g cap N N f1 i w1 h1 (Nat.le_refl _) ((u1 hi).resolve_right (by simp))
    clear e1 d1 u1 o1
    have H1 := Lib.hid (And.intro p1 k1)
    clear p1 k1 h1 h hd
    go_wp2_with (go_at_call 46; refine hU.mono ?_; rintro e w2 ⟨rfl, f2, h2, d2, p2, o2, k2⟩)
    go_end0
    exact ⟨rfl, f2, h2, d2, p2.trans H1.out.1, H1.out.2.trans k2⟩

set_option maxRecDepth 100000 in
set_option maxHeartbeats 1000000 in
theorem hpush_any (S : List Nat) (t m N : Nat) (v : Value) (f : Nat → EnB) (b : Nat) (x : Ke) (i0 : Value) (w : World) (h : HN w S t m v N f) (hN : N < 64) (hb : Blk w b 62 #[.int .i64 x.key, .int .i64 x.at_, i0]) (hbS : b ∈ S) (hbe : ∀ k, k < N → (f k).b ≠ b) (hh : Heap EnB.le f N) :
    Calls Try.prog 35 #[.iface 77 (.pointer (some ⟨t, 0, none⟩)), .iface 60 (.pointer (some ⟨b, 0, none⟩))] w fun e w' => e = .returned (.tuple #[]) ∧ ∃ g cap S' f', HR w' S' t m g cap (N + 1) f' ∧ Heap EnB.le f' (N + 1) ∧ (lst f' (N + 1)).Perm (lst f N ++ [⟨b, x⟩]) ∧ (∀ y ∈ S', y ∈ S ∨ w.heap.size ≤ y) ∧ (∀ y ∈ S, y ∈ S') ∧ Keeps S w w' := by
  have eN := e_len
  have eP := e_push
  have mP := m_push w t
  have hP := epush_any S t m N v f b x i0 w h hN hb hbS hbe
  have hu : UpI EnB.le (addE f N ⟨b, x⟩) (N + 1) N := hh.push (fun k hk => by unfold addE; rw [if_neg (by omega)])
  have HU := Lib.hid hu
  clear hu hh h hb hbe
  go_enter Try.func35, Try.ntmps35
  go_wp2_with (go_at_call 85; refine hP.mono ?_; rintro e w1 ⟨rfl, g, cap, S', h1, s1, s2, k1⟩; clear hP; have mN := m_len h1.c0; have hU := up_any S' t m g cap (N + 1) (N + 1) (addE f N ⟨b, x⟩) N w1 h1 (Nat.le_refl _) HU.out; clear h1; replace s1 := Lib.hid s1; replace s2 := Lib.hid s2; replace k1 := Lib.hid k1)
  have hw : wrap64 (((N + 1 : Nat) : Int) - 1) = (N : Int) := by rw [show (((N + 1 : Nat) : Int) - 1) = (N : Int) by omega]; exact IntWalk.wrap64_in _ ⟨by omega, by omega⟩
  go_wp2_with (first
    | (go_at_call 28; refine (elen_any _ _ _ _).mono ?_; rintro e w3 ⟨rfl, rfl⟩)
    | (go_at_call 46; refine hU.mono ?_; rintro e w2 ⟨rfl, f2, h2, d2, p2, o2, k2⟩))
  go_end0
  refine ⟨rfl, g, cap, S', f2, h2, d2, ?_, s1.out, s2.out, k1.out.trans' k2 (fun y hy => s1.out y hy)⟩
  rwa [addE_lst] at p2

/-- What a taking leaves behind: the last one, that is out. -/
def PopPost (S : List Nat) (t m g cap n : Nat) (f : Nat → EnB) (x : EnB) (w : World) (e : Ending) (w' : World) : Prop :=
  e = .returned (.iface 60 x.ptr) ∧ ∃ f', HR w' S t m g cap n f' ∧ Heap EnB.le f' n ∧ (lst f' n ++ [x]).Perm (lst f (n + 1)) ∧ Keeps S w w' ∧ (∃ i : Value, Blk w' x.b 62 #[.int .i64 x.k.key, .int .i64 x.k.at_, i]) ∧ x.b ≠ t

set_option maxRecDepth 100000 in
set_option maxHeartbeats 1000000 in
theorem hpop_any (S : List Nat) (t m g cap n : Nat) (f : Nat → EnB) (w : World) (h : HR w S t m g cap (n + 1) f) (hh : Heap EnB.le f (n + 1)) :
    Calls Try.prog 42 #[.iface 77 (.pointer (some ⟨t, 0, none⟩))] w fun e w' => PopPost S t m g cap n f (f 0) w e w' := by
  have eN := e_len
  have eS := e_swap
  have eP := e_pop
  have mN := m_len h.c0
  have mP := fun w => m_pop w t
  have mS := m_swap h.c0
  have hS : Calls Try.prog 86 #[.slice (some ⟨g, 0, none⟩) (n + 1) cap, .int .i64 0, .int .i64 n] w fun e w' => e = .returned (.tuple #[]) ∧ HR w' S t m g cap (n + 1) (swp f 0 n) ∧ Keeps S w w' := by
    rcases Nat.eq_zero_or_pos n with rfl | h0
    · exact h.swap0 (by omega)
    · have := h.swap (i := 0) (j := n) (by omega) (by omega) (by omega)
      simpa using this
  have HD : Hid (DnI EnB.le (swp f 0 n) n 0 true) := Lib.hid hh.pop
  have hw : wrap64 (((n + 1 : Nat) : Int) - 1) = (n : Int) := by rw [show (((n + 1 : Nat) : Int) - 1) = (n : Int) by omega]; exact IntWalk.wrap64_in _ ⟨by have := h.max; omega, by have := h.max; omega⟩
  have hwn : wrap64 (n : Int) = (n : Int) := IntWalk.wrap64_in _ ⟨by have := h.max; omega, by have := h.max; omega⟩
  have HP2 : Hid ((lst (swp f 0 n) n ++ [f 0]).Perm (lst f (n + 1))) := Lib.hid (by
    have := swp_perm f (i := 0) (j := n) (n := n + 1) (by omega) (by omega)
    rwa [lst_succ, swp_j] at this)
  clear h hh
  go_enter Try.func42, Try.ntmps42
  go_wp2_with (first
    | (go_at_call 28; refine (elen_any _ _ _ _).mono ?_; rintro e w3 ⟨rfl, rfl⟩)
    | (go_at_call 86; refine hS.mono ?_; rintro e w1 ⟨rfl, h1, k1⟩; clear hS; have hD := down_any S t m g cap (n + 1) (swp f 0 n) 0 n true w1 h1 (by omega) (by omega) HD.out; rw [show (((0 : Nat) : Int)) = 0 from rfl] at hD; replace k1 := Lib.hid k1; clear h1))
  refine hD.mono ?_
  clear hD
  rintro e w2 ⟨r, f1, rfl, h1, o1, p1, e1, d1, u1, k2⟩
  have hq := epop_any S t m g cap n f1 w2 h1
  have D1 := Lib.hid (d1 (.inr rfl))
  have O1 : Hid (f1 n = f 0) := Lib.hid ((o1 n (Nat.le_refl _)).trans (swp_j f 0 n))
  have P1 := Lib.hid p1
  clear e1 u1 d1 o1 p1 h1
  replace k2 := Lib.hid k2
  rw [O1.out] at hq
  go_wp2_with (go_at_call 84; refine hq.mono ?_; rintro e w4 ⟨rfl, h4, k4, n4, b4⟩; clear hq; replace b4 := Lib.hid b4; replace k4 := Lib.hid k4; replace h4 := Lib.hid h4)
  go_ret
  refine ⟨rfl, f1, h4.out, D1.out, ?_, (k1.out.trans k2.out).trans (k4.out.mono (fun k hk => by simp only [List.mem_singleton] at hk; subst hk; exact h4.out.tS)), ⟨_, b4.out⟩, n4⟩
  exact (P1.out.append_right _).trans HP2.out

theorem PopPost.of {S : List Nat} {t m g cap n : Nat} {f : Nat → EnB} {x : EnB} {w : World} {w4 : World} {f1 : Nat → EnB} {i : Value} (h4 : HR w4 S t m g cap n f1) (D : Heap EnB.le f1 n) (P1 : (lst f1 n ++ [x]).Perm (lst f (n + 1))) (K : Keeps S w w4) (B : Blk w4 x.b 62 #[.int .i64 x.k.key, .int .i64 x.k.at_, i]) (hn : x.b ≠ t) :
    PopPost S t m g cap n f x w (.returned (.iface 60 (.pointer (some ⟨x.b, 0, none⟩)))) w4 := ⟨rfl, f1, h4, D, P1, K, ⟨i, B⟩, hn⟩

set_option maxRecDepth 100000 in
set_option maxHeartbeats 2000000 in
theorem hremove_any (S : List Nat) (t m g cap n : Nat) (f : Nat → EnB) (i : Nat) (w : World) (h : HR w S t m g cap (n + 1) f) (hi : i < n + 1) (hh : Heap EnB.le f (n + 1)) :
    Calls Try.prog 36 #[.iface 77 (.pointer (some ⟨t, 0, none⟩)), .int .i64 i] w fun e w' => PopPost S t m g cap n f (f i) w e w' := by
  have eN := e_len
  have eS := e_swap
  have eP := e_pop
  have mN := m_len h.c0
  have mP := fun w => m_pop w t
  have mS := m_swap h.c0
  have hw : wrap64 (((n + 1 : Nat) : Int) - 1) = (n : Int) := by rw [show (((n + 1 : Nat) : Int) - 1) = (n : Int) by omega]; exact IntWalk.wrap64_in _ ⟨by have := h.max; omega, by have := h.max; omega⟩
  have hwn : wrap64 (n : Int) = (n : Int) := IntWalk.wrap64_in _ ⟨by have := h.max; omega, by have := h.max; omega⟩
  rcases Nat.eq_or_lt_of_le (Nat.le_of_lt_succ hi) with rfl | hlt
  · -- the last one
    have hne : ((i : Int) != (i : Int)) = false := by simp
    have hq := epop_any S t m g cap i f w h
    have P1 : Hid ((lst f i ++ [f i]).Perm (lst f (i + 1))) := Lib.hid (by rw [lst_succ])
    have D1 : Hid (Heap EnB.le f i) := Lib.hid (fun k h1 h2 => hh k h1 (by omega))
    clear h hh
    go_enter Try.func36, Try.ntmps36
    go_wp2_with (first
      | (go_at_call 28; refine (elen_any _ _ _ _).mono ?_; rintro e w3 ⟨rfl, rfl⟩)
      | (go_at_call 84; refine hq.mono ?_; rintro e w4 ⟨rfl, h4, k4, n4, b4⟩; clear hq; replace b4 := Lib.hid b4; replace k4 := Lib.hid k4; replace h4 := Lib.hid h4))
    go_ret
    exact PopPost.of h4.out D1.out P1.out (k4.out.mono (fun k hk => by simp only [List.mem_singleton] at hk; subst hk; exact h4.out.tS)) b4.out n4
  · have hne : ((n : Int) != (i : Int)) = true := by simp; omega
    have hS := h.swap (i := i) (j := n) (by omega) (by omega) (by omega)
    have HD : Hid (DnI EnB.le (swp f i n) n i false) := Lib.hid (hh.turn EnB.le_tr (by omega) (by omega) (fun k h1 h2 => swp_o f h2 (by omega)))
    have HP2 : Hid ((lst (swp f i n) n ++ [f i]).Perm (lst f (n + 1))) := Lib.hid (by
      have := swp_perm f (i := i) (j := n) (n := n + 1) (by omega) (by omega)
      rwa [lst_succ, swp_j] at this)
    clear h hh
    go_enter Try.func36, Try.ntmps36
    go_wp2_with (first
      | (go_at_call 28; refine (elen_any _ _ _ _).mono ?_; rintro e w3 ⟨rfl, rfl⟩)
      | (go_at_call 86; refine hS.mono ?_; rintro e w1 ⟨rfl, h1, k1⟩; clear hS; have hD := down_any S t m g cap (n + 1) (swp f i n) i n false w1 h1 (by omega) (by omega) HD.out; replace k1 := Lib.hid k1; clear h1))
    refine hD.mono ?_
    clear hD
    rintro e w2 ⟨r, f1, rfl, h1, o1, p1, e1, d1, u1, k2⟩
    have O1 : Hid (f1 n = f i) := Lib.hid ((o1 n (Nat.le_refl _)).trans (swp_j f i n))
    have P1 := Lib.hid p1
    replace k2 := Lib.hid k2
    cases r with
    | true =>
      have hq := epop_any S t m g cap n f1 w2 h1
      have D1 := Lib.hid (d1 (.inl rfl))
      clear e1 u1 d1 o1 p1 h1
      rw [O1.out] at hq
      go_wp2_with (go_at_call 84; refine hq.mono ?_; rintro e w4 ⟨rfl, h4, k4, n4, b4⟩; clear hq; replace b4 := Lib.hid b4; replace k4 := Lib.hid k4; replace h4 := Lib.hid h4)
      go_ret
      exact PopPost.of h4.out D1.out ((P1.out.append_right _).trans HP2.out) ((k1.out.trans k2.out).trans (k4.out.mono (fun k hk => by simp only [List.mem_singleton] at hk; subst hk; exact h4.out.tS))) b4.out n4
    | false =>
      have hU := up_any S t m g cap (n + 1) n f1 i w2 h1 (by omega) ((u1 hlt).resolve_right (by simp))
      clear e1 u1 d1 o1 p1 h1
      go_wp2_with (go_at_call 46; refine hU.mono ?_; rintro e w3 ⟨rfl, f2, h2, d2, p2, o2, k3⟩; clear hU; have hq := epop_any S t m g cap n f2 w3 h2; rw [o2 n (Nat.le_refl _), O1.out] at hq; replace d2 := Lib.hid d2; replace p2 := Lib.hid p2; replace k3 := Lib.hid k3; clear h2 o2)
      go_wp2_with (go_at_call 84; refine hq.mono ?_; rintro e w4 ⟨rfl, h4, k4, n4, b4⟩; clear hq; replace b4 := Lib.hid b4; replace k4 := Lib.hid k4; replace h4 := Lib.hid h4)
      go_ret
      exact PopPost.of h4.out d2.out (((p2.out.trans P1.out).append_right _).trans HP2.out) (((k1.out.trans k2.out).trans k3.out).trans (k4.out.mono (fun k hk => by simp only [List.mem_singleton] at hk; subst hk; exact h4.out.tS))) b4.out n4
end Go.Proofs.Ytkkajcakgihckaa
