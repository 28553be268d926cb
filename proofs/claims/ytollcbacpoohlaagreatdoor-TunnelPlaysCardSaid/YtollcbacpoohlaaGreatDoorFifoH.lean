/- The walks of the queue's Pop, Clear. -/
import Derived.Test.YtollcbacpoohlaaGreatDoorFifoG
namespace Go.Proofs.YtollcbacpoohlaaGreatDoor
open Go.RowKit

/-- A text of bytes. -/
def str (l : List UInt8) : ByteArray := ⟨l.toArray⟩
theorem str_toList (l : List UInt8) : (str l).data.toList = l := by simp [str]
theorem str_size (l : List UInt8) : (str l).size = l.length := by simp [str, ByteArray.size]
theorem str_of (s : ByteArray) : str s.data.toList = s := by simp [str]

theorem peek_any (b bb cap : Nat) (q : List UInt8) (m : Int) (w : World) (h : Fi w b bb cap q) :
    Calls Tryz.prog 87 #[.pointer (some ⟨b, 0, none⟩), .int .i64 m] w fun e w' => e = .returned (.string (str (q.take m.toNat))) ∧ Keeps [] w w' := by
  rcases Nat.eq_zero_or_pos q.length with h0 | h0
  · obtain rfl := List.eq_nil_of_length_eq_zero h0
    refine (peek_empty b bb cap m w h).mono ?_
    rintro e w' ⟨rfl, hk⟩
    exact ⟨by simp [str], hk⟩
  · exact peek_some b bb cap q m w h h0

theorem peek_eq (b bb cap : Nat) (q : List UInt8) (m : Int) (t : ByteArray) (ht : str (q.take m.toNat) = t) (w : World) (h : Fi w b bb cap q) :
    Calls Tryz.prog 87 #[.pointer (some ⟨b, 0, none⟩), .int .i64 m] w fun e w' => e = .returned (.string t) ∧ Keeps [] w w' := by
  subst ht; exact peek_any b bb cap q m w h

theorem pop_nil (m : Int) (w : World) :
    Calls Tryz.prog 70 #[.pointer none, .int .i64 m] w fun e w' => e = .returned (.string ⟨#[]⟩) ∧ Keeps [] w w' := by
  have HK := Lib.hid (Keeps.refl [] w)
  go_enter Tryz.func70, Tryz.ntmps70
  go_wp2_with (go_at_call 87; refine (peek_nil _ _).mono ?_; rintro e w1 ⟨rfl, hk⟩; have HK1 := Lib.hid hk; clear hk)
  go_ret
  exact ⟨rfl, ((HK.out.alloc _).trans HK1.out).alloc _⟩

set_option maxHeartbeats 1000000 in
theorem pop_eq (b bb cap : Nat) (q : List UInt8) (m : Int) (t : ByteArray) (ht : str (q.take m.toNat) = t) (w : World) (h : Fi w b bb cap q) :
    Calls Tryz.prog 70 #[.pointer (some ⟨b, 0, none⟩), .int .i64 m] w fun e w' => e = .returned (.string t) ∧ Fi w' b bb cap (q.drop m.toNat) ∧ Keeps [b] w w' := by
  have htl : t.data.toList = q.take m.toNat := by rw [← ht, str_toList]
  have hts : t.size = min m.toNat q.length := by rw [← ht, str_size, List.length_take]
  have hdrop : q.drop t.size = q.drop m.toNat := by
    rw [hts]
    rcases Nat.le_total m.toNat q.length with h1 | h1
    · rw [Nat.min_eq_left h1]
    · rw [Nat.min_eq_right h1, List.drop_length, List.drop_eq_nil_of_le h1]
  have hb : Blk (w.alloc (.cells #[.pointer (some ⟨b, 0, none⟩)] 80)) w.heap.size 80 #[.pointer (some ⟨b, 0, none⟩)] := Blk.new w _ _
  have hk0 : Keeps [] w (w.alloc (.cells #[.pointer (some ⟨b, 0, none⟩)] 80)) := (Keeps.refl [] w).alloc _
  have hf0 : Fi (w.alloc (.cells #[.pointer (some ⟨b, 0, none⟩)] 80)) b bb cap q := h.keeps hk0 (by simp) (by simp)
  have hc : (w.alloc (.cells #[.pointer (some ⟨b, 0, none⟩)] 80)).cell? ⟨w.heap.size, 0, none⟩ = some (.pointer (some ⟨b, 0, none⟩)) := hb.cell 0
  have HT := Lib.hid ht
  have HTS := Lib.hid hts
  have HD := Lib.hid hdrop
  have HF := Lib.hid hf0
  have HK := Lib.hid hk0
  have HB := Lib.hid hb
  have htd : t.toList = t.data.toList := ByteArray.toList_eq t
  have htz : t.toList.isEmpty = true → q.drop m.toNat = q := fun h1 => by
    have : t.size = 0 := by rw [htd, List.isEmpty_iff] at h1; have := congrArg List.length h1; simpa using this
    rw [← hdrop, this]; rfl
  have HZ := Lib.hid htz
  clear ht htl hts hdrop hb hk0 hf0 h htd htz
  go_enter Tryz.func70, Tryz.ntmps70
  go_wp2_with (fail)
  refine (peek_eq b bb cap q m t HT.out _ HF.out).mono ?_
  rintro e w1 ⟨rfl, hk1⟩
  have hk2 : Keeps [] w (w1.alloc (.cells #[.string t] 9)) := (HK.out.trans hk1).alloc _
  have hf2 : Fi (w1.alloc (.cells #[.string t] 9)) b bb cap q := HF.out.keeps (hk1.alloc _) (by simp) (by simp)
  have hb2 : Blk (w1.alloc (.cells #[.string t] 9)) w.heap.size 80 #[.pointer (some ⟨b, 0, none⟩)] := HB.out.keeps (hk1.alloc _) (by simp)
  have hb3 : Blk (w1.alloc (.cells #[.string t] 9)) w1.heap.size 9 #[.string t] := Blk.new w1 _ _
  have hc1 : (w1.alloc (.cells #[.string t] 9)).cell? ⟨w1.heap.size, 0, none⟩ = some (.string t) := hb3.cell 0
  have HK2 := Lib.hid hk2
  have HF2 := Lib.hid hf2
  have HB2 := Lib.hid hb2
  have HB3 := Lib.hid hb3
  clear hk1 hk2 hf2 hb2 hb3 hc
  by_cases hz : t.toList.isEmpty = true
  · go_wp2
    go_ret
    exact ⟨rfl, by rw [HZ.out hz]; exact HF2.out, HK2.out.mono (by simp)⟩
  · have hz' : t.toList.isEmpty = false := by simpa using hz
    clear hz
    go_wp2_with (fail)
    refine (pop1_any _ _ b bb cap q t _ HF2.out (by have := HTS.out; omega) HB2.out HB3.out).mono ?_
    rintro e w2 ⟨rfl, hf3, hk3⟩
    have hc2 : w2.cell? ⟨w1.heap.size, 0, none⟩ = some (.string t) := by
      have := HB3.out.keeps hk3 (by have := HF2.out; obtain ⟨fr, A, h⟩ := this; simp; intro e; exact absurd e (HB3.out.ne_ h.head (by decide)))
      exact this.cell 0
    have HF3 := Lib.hid hf3
    have HK3 := Lib.hid ((HK2.out.mono (S' := [b]) (by simp)).trans hk3)
    clear hf3 hk3
    go_wp2
    go_ret
    exact ⟨rfl, by rw [← HD.out]; exact HF3.out, HK3.out⟩

theorem clear_any (b bb cap : Nat) (q : List UInt8) (w : World) (h : Fi w b bb cap q) :
    Calls Tryz.prog 73 #[.pointer (some ⟨b, 0, none⟩)] w fun e w' => e = .returned (.int .i64 q.length) ∧ Fi w' b bb cap [] ∧ Keeps [b] w w' := by
  obtain ⟨t, ht⟩ : ∃ t, str (q.take (q.length : Int).toNat) = t := ⟨_, rfl⟩
  have hts : t.size = q.length := by rw [← ht, str_size]; simp
  have hd : q.drop (q.length : Int).toNat = [] := by simp
  have HF := Lib.hid h
  have HT := Lib.hid ht
  have HS := Lib.hid hts
  have HD := Lib.hid hd
  clear h ht hts hd
  go_enter Tryz.func73, Tryz.ntmps73
  go_wp2_with (first | (go_at_call 68; refine (len_any b bb cap q _ HF.out).mono ?_; rintro e w' ⟨rfl, rfl⟩) | (go_at_call 70; refine (pop_eq b bb cap q _ t HT.out _ HF.out).mono ?_; rintro e w1 ⟨rfl, hf, hk⟩; have HF1 := Lib.hid hf; have HK1 := Lib.hid hk; clear hf hk))
  go_ret
  exact ⟨ret_int (by have := HS.out; omega), by have := HF1.out; rw [HD.out] at this; exact this, HK1.out⟩
end Go.Proofs.YtollcbacpoohlaaGreatDoor
