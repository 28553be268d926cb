/- The queue's contracts with their numbers named. -/
import Derived.Test.YtollcbacpoohlaaGreatDoorFifoH
namespace Go.Proofs.YtollcbacpoohlaaGreatDoor
open Go.RowKit

theorem qlen_eq (b bb cap n : Nat) (s : List UInt8) (hn : s.length = n) (w : World) (h : Fi w b bb cap s) :
    Calls Tryz.prog 68 #[.pointer (some ⟨b, 0, none⟩)] w fun e w' => e = .returned (.int .i64 n) ∧ Keeps [] w w' := by
  subst hn; exact (len_any b bb cap s w h).mono fun _ _ ⟨h1, h2⟩ => ⟨h1, h2 ▸ Keeps.refl [] w⟩
theorem qroom_eq (b bb cap n : Nat) (s : List UInt8) (hn : cap - s.length = n) (w : World) (h : Fi w b bb cap s) :
    Calls Tryz.prog 69 #[.pointer (some ⟨b, 0, none⟩)] w fun e w' => e = .returned (.int .i64 n) ∧ Keeps [] w w' := by
  subst hn; exact (room_any b bb cap s w h).mono fun _ _ ⟨h1, k, h2⟩ => ⟨h1, h2 ▸ (Keeps.refl [] w).drewN k⟩
theorem qpush_eq (b bb cap n : Nat) (q q' : List UInt8) (s : ByteArray) (hn : min s.size (cap - q.length) = n) (hq : q ++ s.data.toList.take n = q') (w : World) (h : Fi w b bb cap q) (hs : s.size ≤ 1000000) :
    Calls Tryz.prog 64 #[.pointer (some ⟨b, 0, none⟩), .string s] w fun e w' => e = .returned (.int .i64 n) ∧ Fi w' b bb cap q' ∧ Keeps [b, bb] w w' := by
  subst hn hq; exact push_any b bb cap q s w h hs
theorem qclear_eq (b bb cap n : Nat) (q : List UInt8) (hn : q.length = n) (w : World) (h : Fi w b bb cap q) :
    Calls Tryz.prog 73 #[.pointer (some ⟨b, 0, none⟩)] w fun e w' => e = .returned (.int .i64 n) ∧ Fi w' b bb cap [] ∧ Keeps [b] w w' := by
  subst hn; exact clear_any b bb cap q w h
theorem qpop_eq (b bb cap : Nat) (q q' : List UInt8) (m : Int) (t : ByteArray) (ht : str (q.take m.toNat) = t) (hq : q.drop m.toNat = q') (w : World) (h : Fi w b bb cap q) :
    Calls Tryz.prog 70 #[.pointer (some ⟨b, 0, none⟩), .int .i64 m] w fun e w' => e = .returned (.string t) ∧ Fi w' b bb cap q' ∧ Keeps [b] w w' := by
  subst hq; exact pop_eq b bb cap q m t ht w h
theorem Fi.le {w : World} {b bb cap : Nat} {q : List UInt8} (h : Fi w b bb cap q) : q.length ≤ cap ∧ cap ≤ 4096 ∧ 1 ≤ cap := by
  obtain ⟨fr, A, h⟩ := h; exact ⟨h.len, h.le, h.pos⟩
end Go.Proofs.YtollcbacpoohlaaGreatDoor
