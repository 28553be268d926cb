/- The walks of the document's plain, Right of a word, right of items. -/
import Derived.Test.YtbcppmcjbcnlbaaDoorSnapR
namespace Go.Proofs.YtbcppmcjbcnlbaaDoor
open Go.RowKit Go.Shelf
attribute [local go_sem ↓] Go.wp_at_zero Go.wp_at_succ

set_option maxRecDepth 100000 in
set_option maxHeartbeats 1000000 in
theorem plain02_any (s : ByteArray) (b : Bool) (hb : plainB s = b) (hsz : s.size ≤ maxLen) (w : World) : Calls Tryd.prog 55 #[.string s] w fun r w' => r = .returned (.bool b) ∧ w = w' := by
  have HB := Lib.hid hb
  have hs2 : s.size ≤ 9223372036854775807 := by unfold maxLen at hsz; omega
  clear hb hsz
  go_enter Tryd.func55, Tryd.ntmps55
  go_wp2
  go_loopw [3] (fun i w' => ∃ k : Nat, k ≤ s.size ∧ i = .int .i64 k ∧ w = w' ∧ Hid ((s.data.toList.take k).all byteB = true)) (fun i _ => s.size - (intOf i).toNat)
  case atStart => exact ⟨0, Nat.zero_le _, rfl, rfl, Lib.hid rfl⟩
  case round =>
    obtain ⟨k, hk, rfl, rfl, HO⟩ := hrel
    by_cases hp : k < s.size
    · obtain ⟨c, hc⟩ : ∃ c, (s[k]'hp) = c := ⟨_, rfl⟩
      have i1 : (0 : Int) ≤ (k : Int) := by omega
      have i2 : (k : Int) < (s.size : Int) := by omega
      have HNX := Lib.hid (plain_take s k hp)
      have HC := Lib.hid hc
      cases hcb : byteB c with
      | true =>
        have h32 : ¬ (c.toNat : Int) < 32 := by unfold byteB at hcb; simp at hcb; omega
        have h126 : ¬ (126 : Int) < (c.toNat : Int) := by unfold byteB at hcb; simp at hcb; omega
        have HO2 : Hid ((s.data.toList.take (k + 1)).all byteB = true) := Lib.hid (by rw [HNX.out, HO.out, HC.out, hcb]; rfl)
        clear hcb
        go_wp2
        go_roundw
        case rel => exact ⟨k + 1, by omega, by go_num, trivial, HO2⟩
        case measure => simp [intOf]; omega
      | false =>
        obtain rfl : false = b := (plain_bad s k hp (by rw [hc, hcb])).symm.trans HB.out
        have h2 : (c.toNat : Int) < 32 ∨ (126 : Int) < (c.toNat : Int) := by unfold byteB at hcb; simp at hcb; omega
        clear hcb
        rcases h2 with h2 | h2
        · go_wp2
          go_ret
          exact ⟨rfl, rfl⟩
        · have h3 : ¬ (c.toNat : Int) < 32 := by omega
          go_wp2
          go_ret
          exact ⟨rfl, rfl⟩
    · obtain rfl : k = s.size := by omega
      obtain rfl : true = b := by
        have h1 := HO.out
        have h2 := HB.out
        rw [show s.size = s.data.toList.length from by rw [Array.length_toList]; rfl, List.take_length] at h1
        exact h1.symm.trans h2
      go_wp2
      go_ret
      exact ⟨rfl, rfl⟩

theorem right02_any (s : ByteArray) (b : Bool) (hb : wordB s = b) (hsz : s.size ≤ maxLen) (w : World) : Calls Tryd.prog 48 #[.string s] w fun r w' => r = .returned (.bool b) ∧ w = w' := by
  obtain ⟨p, hp⟩ : ∃ p, plainB s = p := ⟨_, rfl⟩
  have HP := Lib.hid hp
  have HZ := Lib.hid hsz
  unfold wordB at hb
  rw [hp] at hb
  by_cases hl : s.size ≤ 64
  · obtain rfl : p = b := by rw [← hb]; simp [hl]
    have i1 : (s.size : Int) ≤ 64 := by omega
    clear hb hp hsz hl
    go_enter Tryd.func48, Tryd.ntmps48
    go_wp2_with (fail)
    refine (plain02_any s p HP.out HZ.out _).mono ?_
    rintro r w1 ⟨rfl, rfl⟩
    go_wp2
    go_ret
    exact ⟨rfl, rfl⟩
  · obtain rfl : false = b := by rw [← hb]; simp [hl]
    have i1 : ¬ (s.size : Int) ≤ 64 := by omega
    clear hb hp hsz hl
    go_enter Tryd.func48, Tryd.ntmps48
    go_wp2
    go_ret
    exact ⟨rfl, rfl⟩

theorem items_all (xs : List ByteArray) (k : Nat) (x : ByteArray) (hx : xs[k]? = some x) : (xs.take (k + 1)).all wordB = ((xs.take k).all wordB && wordB x) := by
  rw [take_snoc hx, List.all_append]; simp
theorem items_bad (xs : List ByteArray) (k : Nat) (x : ByteArray) (hx : xs[k]? = some x) (hb : wordB x = false) : itemsB xs = false := by
  unfold itemsB
  rw [Bool.and_eq_false_iff]
  right
  apply Bool.eq_false_iff.2
  intro ha
  rw [List.all_eq_true] at ha
  have := ha x (List.mem_of_getElem? hx)
  rw [hb] at this
  cases this
set_option maxRecDepth 100000 in
set_option maxHeartbeats 1000000 in
theorem right16_items (a : Option Addr) (c : Nat) (xs : List ByteArray) (n : Nat) (hn : xs.length = n) (b : Bool) (hb : itemsB xs = b) (w : World) (h : StrsV w a c xs) :
    Calls Tryd.prog 37 #[.slice a n c] w fun r w' => r = .returned (.bool b) ∧ w = w' := by
  have HB := Lib.hid hb
  have HN := Lib.hid hn
  have H := Lib.hid h
  have hs2 : n ≤ 1000000 := by rw [← hn]; exact h.small
  clear hb hn h
  go_enter Tryd.func37, Tryd.ntmps37
  go_wp2
  go_loopw [3] (fun i w' => ∃ k : Nat, k ≤ n ∧ i = .int .i64 k ∧ w = w' ∧ Hid ((xs.take k).all wordB = true)) (fun i _ => n - (intOf i).toNat)
  case atStart => exact ⟨0, Nat.zero_le _, rfl, rfl, Lib.hid rfl⟩
  case round =>
    obtain ⟨k, hk, rfl, rfl, HO⟩ := hrel
    by_cases hp : k < n
    · have hk1 : k < xs.length := by rw [HN.out]; exact hp
      obtain ⟨g, o, cs, fz, rfl, hbk, hat⟩ := H.out.at_ (by rintro rfl; simp at hk1)
      obtain ⟨x, hx⟩ : ∃ x, xs[k] = x := ⟨_, rfl⟩
      have q1 := hat k hk1
      rw [hx] at q1
      have i1 : (0 : Int) ≤ (k : Int) := by omega
      have i2 : (k : Int) < (n : Int) := by omega
      have HX : Hid (xs[k]? = some x) := Lib.hid (by rw [List.getElem?_eq_getElem hk1, hx])
      have HZ : Hid (x.size ≤ maxLen) := Lib.hid (H.out.size x (by rw [← hx]; exact List.getElem_mem _))
      clear hbk hat hx hk1
      obtain ⟨p, hpx⟩ : ∃ p, wordB x = p := ⟨_, rfl⟩
      have HP := Lib.hid hpx
      clear hpx
      go_wp2_with (fail)
      refine (right02_any x p HP.out HZ.out _).mono ?_
      rintro r w1 ⟨rfl, rfl⟩
      cases p with
      | true =>
        have HO2 : Hid ((xs.take (k + 1)).all wordB = true) := Lib.hid (by rw [items_all xs k x HX.out, HO.out, HP.out]; rfl)
        go_wp2
        go_roundw
        case rel => exact ⟨k + 1, by omega, by go_num, trivial, HO2⟩
        case measure => simp [intOf]; omega
      | false =>
        obtain rfl : false = b := (items_bad xs k x HX.out HP.out).symm.trans HB.out
        go_wp2
        go_ret
        exact ⟨rfl, rfl⟩
    · obtain rfl : k = n := by omega
      have h1 := HO.out
      rw [List.take_of_length_le (by rw [HN.out]; exact Nat.le_refl _)] at h1
      have h2 := HB.out
      unfold itemsB at h2
      rw [h1, HN.out, Bool.and_true] at h2
      clear h1
      by_cases hl : k ≤ 64
      · obtain rfl : true = b := by rw [← h2]; simp [hl]
        have i3 : (k : Int) ≤ 64 := by omega
        clear h2
        go_wp2
        go_ret
        exact ⟨rfl, rfl⟩
      · obtain rfl : false = b := by rw [← h2]; simp [hl]
        have i3 : ¬ (k : Int) ≤ 64 := by omega
        clear h2
        go_wp2
        go_ret
        exact ⟨rfl, rfl⟩
end Go.Proofs.YtbcppmcjbcnlbaaDoor
