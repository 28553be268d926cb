/- The walk of the statements' 'do': one call of the queue. -/
import Derived.Test.YthngchdfbcpciaaFifoH
namespace Go.Proofs.Ythngchdfbcpciaa
open Go.RowKit

/-! The contracts, with what is handed back under a name. -/
theorem len_eq (b bb cap n : Nat) (s : List UInt8) (hn : s.length = n) (w : World) (h : Fi w b bb cap s) :
    Calls Try.prog 12 #[.pointer (some ⟨b, 0, none⟩)] w fun e w' => e = .returned (.int .i64 n) ∧ w = w' := by
  subst hn; exact len_any b bb cap s w h
theorem room_eq (b bb cap n : Nat) (s : List UInt8) (hn : cap - s.length = n) (w : World) (h : Fi w b bb cap s) :
    Calls Try.prog 17 #[.pointer (some ⟨b, 0, none⟩)] w fun e w' => e = .returned (.int .i64 n) ∧ ∃ k, w' = w.drewN k := by
  subst hn; exact room_any b bb cap s w h
theorem push_eq (b bb cap n : Nat) (q q' : List UInt8) (s : ByteArray) (hn : min s.size (cap - q.length) = n) (hq : q ++ s.data.toList.take n = q') (w : World) (h : Fi w b bb cap q) (hs : s.size ≤ 1000000) :
    Calls Try.prog 13 #[.pointer (some ⟨b, 0, none⟩), .string s] w fun e w' => e = .returned (.int .i64 n) ∧ Fi w' b bb cap q' ∧ Keeps [b, bb] w w' := by
  subst hn hq; exact push_any b bb cap q s w h hs
theorem clear_eq (b bb cap n : Nat) (q : List UInt8) (hn : q.length = n) (w : World) (h : Fi w b bb cap q) :
    Calls Try.prog 19 #[.pointer (some ⟨b, 0, none⟩)] w fun e w' => e = .returned (.int .i64 n) ∧ Fi w' b bb cap [] ∧ Keeps [b] w w' := by
  subst hn; exact clear_any b bb cap q w h

/-- A call of the queue: its kind, its number, its text. -/
structure Op1 where
  kind : Int
  n : Int
  s : ByteArray

def Op1.val (x : Op1) : Value := .agg #[.int .i64 x.kind, .int .i64 x.n, .string x.s]

/-- What a call answers, and what the queue holds behind it. -/
def doAns (cap : Nat) (q : List UInt8) (x : Op1) : Int × ByteArray :=
  if x.kind = 0 then ((min x.s.size (cap - q.length) : Nat), ⟨#[]⟩)
  else if x.kind = 1 then (0, str (q.take x.n.toNat))
  else if x.kind = 2 then (0, str (q.take x.n.toNat))
  else if x.kind = 3 then (q.length, ⟨#[]⟩)
  else (0, ⟨#[]⟩)
def doQ (cap : Nat) (q : List UInt8) (x : Op1) : List UInt8 :=
  if x.kind = 0 then q ++ x.s.data.toList.take (min x.s.size (cap - q.length))
  else if x.kind = 1 then q.drop x.n.toNat
  else if x.kind = 2 then q
  else if x.kind = 3 then []
  else q

set_option maxHeartbeats 1000000 in
theorem do_agg (k m : Int) (s : ByteArray) (b bb cap : Nat) (q : List UInt8) (w : World) (h : Fi w b bb cap q) (hs : s.size ≤ 1000000) :
    Calls Try.prog 15 #[.pointer (some ⟨b, 0, none⟩), .agg #[.int .i64 k, .int .i64 m, .string s]] w fun e w' => ∃ n t, (n, t) = doAns cap q ⟨k, m, s⟩ ∧ e = .returned (.tuple #[.int .i64 n, .string t]) ∧ Fi w' b bb cap (doQ cap q ⟨k, m, s⟩) ∧ Keeps [b, bb] w w' := by
  have hk0 : Keeps [] w (w.alloc (.cells #[.int .i64 k, .int .i64 m, .string s] 38)) := (Keeps.refl [] w).alloc _
  have hf0 : Fi (w.alloc (.cells #[.int .i64 k, .int .i64 m, .string s] 38)) b bb cap q := h.keeps hk0 (by simp) (by simp)
  have hb := Blk.new w 38 #[.int .i64 k, .int .i64 m, .string s]
  have hc0 := hb.cell 0
  have hc1 := hb.cell 1
  have hc2 := hb.cell 2
  have HF := Lib.hid hf0
  have HK := Lib.hid (hk0.mono (S' := [b, bb]) (by simp))
  obtain ⟨t, ht⟩ : ∃ t, str (q.take m.toNat) = t := ⟨_, rfl⟩
  have HT := Lib.hid ht
  clear h hk0 hf0 hb ht
  by_cases h0 : k = 0
  · subst h0
    go_enter Try.func15, Try.ntmps15
    go_wp2_with (go_at_call 13; refine (push_any b bb cap q s _ HF.out hs).mono ?_; rintro e w1 ⟨rfl, hf, hk⟩; have HF1 := Lib.hid hf; have HK1 := Lib.hid hk; clear hf hk)
    go_ret2
    exact ⟨_, _, rfl, rfl, HF1.out, HK.out.trans HK1.out⟩
  by_cases h1 : k = 1
  · subst h1
    clear h0
    go_enter Try.func15, Try.ntmps15
    go_wp2_with (go_at_call 14; refine (pop_eq b bb cap q m t HT.out _ HF.out).mono ?_; rintro e w1 ⟨rfl, hf, hk⟩; have HF1 := Lib.hid hf; have HK1 := Lib.hid hk; clear hf hk)
    go_ret2
    exact ⟨_, _, by rw [← HT.out]; rfl, rfl, HF1.out, HK.out.trans (HK1.out.mono (by simp))⟩
  by_cases h2 : k = 2
  · subst h2
    clear h0 h1
    go_enter Try.func15, Try.ntmps15
    go_wp2_with (go_at_call 18; refine (peek_eq b bb cap q m t HT.out _ HF.out).mono ?_; rintro e w1 ⟨rfl, hk⟩; have HK1 := Lib.hid hk; clear hk)
    go_ret2
    exact ⟨_, _, by rw [← HT.out]; rfl, rfl, HF.out.keeps HK1.out (by simp) (by simp), HK.out.trans (HK1.out.mono (by simp))⟩
  by_cases h3 : k = 3
  · subst h3
    clear h0 h1 h2
    go_enter Try.func15, Try.ntmps15
    go_wp2_with (go_at_call 19; refine (clear_any b bb cap q _ HF.out).mono ?_; rintro e w1 ⟨rfl, hf, hk⟩; have HF1 := Lib.hid hf; have HK1 := Lib.hid hk; clear hf hk)
    go_ret2
    exact ⟨_, _, rfl, rfl, HF1.out, HK.out.trans (HK1.out.mono (by simp))⟩
  · go_enter Try.func15, Try.ntmps15
    go_wp2
    go_ret2
    exact ⟨_, _, by simp [doAns, h0, h1, h2, h3], rfl, by simpa [doQ, h0, h1, h2, h3] using HF.out, HK.out⟩
end Go.Proofs.Ythngchdfbcpciaa
