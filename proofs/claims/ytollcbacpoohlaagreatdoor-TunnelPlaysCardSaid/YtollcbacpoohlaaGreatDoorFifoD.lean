/- The walk of the queue's Push. -/
import Derived.Test.YtollcbacpoohlaaGreatDoorFifoC
namespace Go.Proofs.YtollcbacpoohlaaGreatDoor
open Go.RowKit
attribute [local go_sem ↓] Go.wp_at_zero Go.wp_at_succ

theorem take_snoc (s : ByteArray) (k : Nat) (h : k < s.size) : s.data.toList.take (k + 1) = s.data.toList.take k ++ [s[k]] := by
  rw [List.take_succ_eq_append_getElem (by simpa using h)]; rfl

set_option maxHeartbeats 1000000 in
theorem push_any (b bb cap : Nat) (q : List UInt8) (s : ByteArray) (w : World) (h : Fi w b bb cap q) (hs : s.size ≤ 1000000) :
    Calls Tryz.prog 64 #[.pointer (some ⟨b, 0, none⟩), .string s] w fun e w' => e = .returned (.int .i64 (min s.size (cap - q.length) : Nat)) ∧ Fi w' b bb cap (q ++ s.data.toList.take (min s.size (cap - q.length))) ∧ Keeps [b, bb] w w' := by
  obtain ⟨t, ht⟩ : ∃ t, s.extract 0 (min s.size (cap - q.length)) = t := ⟨_, rfl⟩
  have hcap : cap ≤ 4096 ∧ q.length ≤ cap := by obtain ⟨fr, A, h⟩ := h; exact ⟨h.le, h.len⟩
  obtain ⟨hcap, hql⟩ := hcap
  have hts : t.size = min s.size (cap - q.length) := by rw [← ht]; simp
  have htl : t.data.toList = s.data.toList.take (min s.size (cap - q.length)) := by rw [← ht]; simp [ByteArray.data_extract]
  have ht1 : t.size ≤ cap - q.length := by omega
  have ht2 : t.size ≤ 4096 := by omega
  have HT := Lib.hid ht
  have HS := Lib.hid hts
  have HL := Lib.hid htl
  have H := Lib.hid h
  clear ht hts htl h
  go_enter Tryz.func64, Tryz.ntmps64
  go_wp2_with (first | (go_at_call 69; refine (room_any b bb cap q _ H.out).mono ?_; rintro e w' ⟨rfl, n, rfl⟩) | (go_at_call 83; refine (cut_eq s t (cap - q.length) _ _ HT.out _ ?_ ?_ ?_).mono ?_ <;> first | exact (Blk.new _ _ _).cell 0 | omega | (unfold maxLen; omega) | (rintro e w' ⟨rfl, rfl⟩)))
  go_loopw [6, 14] (fun _ i wr => ∃ k : Nat, k ≤ t.size ∧ i = .int .i64 k ∧ Fi wr b bb cap (q ++ t.data.toList.take k) ∧ Keeps [b, bb] w wr) (fun _ i _ => t.size - (intOf i).toNat)
  case atStart =>
    have hK : Keeps [b, bb] w ((w.drewN n).alloc (Obj.cells #[Value.int IntKind.i64 ↑(cap - q.length)] 3)) := ((Keeps.refl _ w).drewN n).alloc _
    have hF : Fi ((w.drewN n).alloc (Obj.cells #[Value.int IntKind.i64 ↑(cap - q.length)] 3)) b bb cap q := H.out.keeps (((Keeps.refl [] w).drewN n).alloc _) (by simp) (by simp)
    exact ⟨0, Nat.zero_le _, rfl, by simpa using hF, hK⟩
  case round =>
    obtain ⟨k, hk, rfl, hF, hK⟩ := hrel
    by_cases hlt : k < t.size
    · have hts := take_snoc t k hlt
      have hl : (t.data.toList.take k).length = k := by simp; omega
      have hl2 : (q ++ t.data.toList.take k).length < cap := by rw [List.length_append, hl]; omega
      have HF := Lib.hid hF
      have HK := Lib.hid hK
      have HTS := Lib.hid hts
      have HL2 := Lib.hid hl2
      clear hF hK hts hl hl2
      have hi1 : (0 : Int) ≤ (k : Int) := by omega
      have hi2 : (k : Int) < (t.size : Int) := by omega
      go_wp2_with (fail)
      go_region_held3 (fun _ => True) (exact trivial) (first | (go_at_call 82; refine (put_any b bb cap _ (t[k]) _ (Fi.keeps HF.out ((Keeps.refl [] _).drewN 1) (by simp) (by simp)) HL2.out).mono ?_; rintro e w' ⟨rfl, hF, hK⟩))
      have hF2 : Fi w' b bb cap (q ++ t.data.toList.take (k + 1)) := by rw [HTS.out, ← List.append_assoc]; exact hF
      have hK2 : Keeps [b, bb] w w' := (HK.out.drewN 1).trans hK
      have HF2 := Lib.hid hF2
      have HK2 := Lib.hid hK2
      clear hF hK hF2 hK2
      go_wp2
      go_roundw
      case rel => exact ⟨k + 1, by omega, by go_num, HF2.out, HK2.out⟩
      case measure => simp [intOf]; omega
    · obtain rfl : k = t.size := by omega
      have hF2 : Fi wr b bb cap (q ++ s.data.toList.take (min s.size (cap - q.length))) := by
        rw [List.take_of_length_le (by simp), HL.out] at hF; exact hF
      have HF := Lib.hid hF2
      have HK := Lib.hid hK
      clear hF hF2 hK
      go_wp2
      go_ret
      exact ⟨ret_int (by have := HS.out; omega), HF.out, HK.out⟩
end Go.Proofs.YtollcbacpoohlaaGreatDoor
