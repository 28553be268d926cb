/- The walks of lay and of shown. -/
import Derived.Test.YtfedhhndkeakhaaDoorWireM
namespace Go.Proofs.YtfedhhndkeakhaaDoor
open Go.RowKit
attribute [local go_sem ↓] Go.wp_at_zero Go.wp_at_succ

/-- Many frames' bytes; false: one is wrong. -/
def layL : ByteArray → List Fr → ByteArray × Bool
  | s, [] => (s, true)
  | s, f :: L => if rightF f then layL (s ++ (encA f).1) L else (⟨#[]⟩, false)

theorem encA_ok {f : Fr} (h : rightF f = true) : encA f = ((encA f).1, 0) := by unfold encA; rw [h]; rfl
theorem encA_bad {f : Fr} (h : rightF f = false) : encA f = (⟨#[]⟩, 33) := by unfold encA; rw [h]; rfl
theorem encA_size {f : Fr} (h : rightF f = true) : (encA f).1.size = 5 + f.data.size := by
  unfold encA; rw [h]
  show (ByteArray.mk #[UInt8.ofNat f.kind.toNat] ++ two f.stream ++ two f.data.size ++ f.data).size = _
  rw [ByteArray.size_append, ByteArray.size_append, ByteArray.size_append]
  show 1 + 2 + 2 + _ = _
  omega

set_option maxRecDepth 100000 in
set_option maxHeartbeats 1000000 in
theorem lay_any {w0 : World} (a : Option Addr) (c : Nat) (L : List Fr) (hL : FrsIn w0 a L) (hlen : L.length ≤ 10) (hd : ∀ f ∈ L, f.data.size ≤ maxLen) (s : ByteArray) (b : Bool) (hs : layL ⟨#[]⟩ L = (s, b)) (w : World) (hw : w0 = w) (e : Nat → Addr) (he : Env w e) :
    Calls Tryd.prog 26 #[.slice a L.length c] w fun r w' => r = .returned (.tuple #[.string s, .bool b]) ∧ Keeps [] w w' := by
  subst hw
  have HL := Lib.hid hL
  have HD := Lib.hid hd
  have HS := Lib.hid hs
  have HE := Lib.hid he
  obtain ⟨N, hN⟩ : ∃ N, L.length = N := ⟨_, rfl⟩
  have HN := Lib.hid hN
  have hN10 : N ≤ 10 := by omega
  rw [hN]
  clear hL hd hs he hN hlen
  go_enter Tryd.func26, Tryd.ntmps26
  go_wp2
  go_loopw [4, 5] (fun t i wr => ∃ (k : Nat) (q : ByteArray), k ≤ N ∧ i = .int .i64 k ∧ t = .string q ∧ q.size ≤ 600 * k ∧ Hid (layL q (L.drop k) = (s, b)) ∧ Hid (Keeps [] w0 wr)) (fun _ i _ => N - (intOf i).toNat)
  case atStart => exact ⟨0, ⟨#[]⟩, Nat.zero_le _, rfl, rfl, Nat.le_refl _, HS, Lib.hid (Keeps.refl [] w0)⟩
  case round =>
    obtain ⟨k, q, hk, rfl, rfl, hqs, HQ, HK⟩ := hrel
    by_cases hlt : k < N
    · have hk1 : k < L.length := by rw [HN.out]; exact hlt
      obtain ⟨g, off, ha, hg, hat⟩ := HL.out (by rintro rfl; simp at hk1)
      subst ha
      obtain ⟨x, hx⟩ : ∃ x, L[k] = x := ⟨_, rfl⟩
      have q1 := hat k hk1
      rw [hx] at q1
      obtain ⟨p0, p1, p2⟩ := q1
      rw [← HK.out.cell (by exact hg) (by simp)] at p0 p1 p2
      have i1 : (0 : Int) ≤ (k : Int) := by omega
      have i2 : (k : Int) < (N : Int) := by omega
      have hxs : x.data.size ≤ maxLen := HD.out x (by rw [← hx]; exact List.getElem_mem _)
      have hq2 := HQ.out
      rw [List.drop_eq_getElem_cons hk1, hx] at hq2
      unfold layL at hq2
      have HXS := Lib.hid hxs
      have HE1 := Lib.hid (HE.out.keep HK.out)
      clear hat hx hxs hk1
      cases hr : rightF x with
      | true =>
        rw [hr] at hq2
        have HQ2 : Hid (layL (q ++ (encA x).1) (L.drop (k + 1)) = (s, b)) := Lib.hid hq2
        have hsz := encA_size hr
        obtain ⟨_, _, _, _, hd5⟩ := right_bd hr
        have HEN := Lib.hid (encA_ok hr)
        obtain ⟨enc, henc⟩ : ∃ enc, (encA x).1 = enc := ⟨_, rfl⟩
        rw [henc] at hsz HQ2 HEN
        clear hq2 hr henc
        have hsum : (q ++ enc).size ≤ 600 * (k + 1) := by rw [ByteArray.size_append]; omega
        go_wp2_with (fail)
        refine (encode_any x HXS.out enc 0 HEN.out _ e HE1.out).mono ?_
        rintro r w2 ⟨rfl, hk2⟩
        have HK2 := Lib.hid (HK.out.trans hk2)
        have hb1 : ¬ (q.size + enc.size > 9223372036854775807) := by omega
        clear hk2
        go_wp2
        go_roundw
        case rel => exact ⟨k + 1, _, by omega, by go_num, rfl, hsum, HQ2, HK2⟩
        case measure => simp [intOf]; omega
      | false =>
        rw [hr] at hq2
        cases hq2
        have HEN := Lib.hid (encA_bad hr)
        clear hr
        go_wp2_with (fail)
        refine (encode_any x HXS.out _ _ HEN.out _ e HE1.out).mono ?_
        rintro r w2 ⟨rfl, hk2⟩
        have HK2 := Lib.hid (HK.out.trans hk2)
        clear hk2
        go_wp2
        go_ret2
        exact ⟨rfl, HK2.out⟩
    · obtain rfl : k = N := by omega
      have hq2 := HQ.out
      rw [List.drop_of_length_le (by rw [HN.out]; exact Nat.le_refl _)] at hq2
      cases hq2
      go_wp2
      go_ret2
      exact ⟨rfl, HK.out⟩
end Go.Proofs.YtfedhhndkeakhaaDoor
