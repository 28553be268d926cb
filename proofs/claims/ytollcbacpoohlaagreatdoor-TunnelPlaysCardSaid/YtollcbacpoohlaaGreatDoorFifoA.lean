/- The walks of the queue's small functions: at, Len, Room, put, New, cut. -/
import Derived.Test.YtollcbacpoohlaaGreatDoorRows
import Derived.Test.YtollcbacpoohlaaGreatDoorBase
namespace Go.Proofs.YtollcbacpoohlaaGreatDoor
open Go.RowKit

/-- The bytes A, from fr on and round, begin with s. -/
def Holds (A : Array Value) (cap fr : Nat) (s : List UInt8) : Prop := ∀ i (h : i < s.length), A[(fr + i) % cap]? = some (.int .u8 (s[i].toNat : Int))

/-- At block b lies a queue of capacity cap, its bytes at bb, which holds s. -/
structure FiAt (w : World) (b bb cap fr : Nat) (A : Array Value) (s : List UInt8) : Prop where
  head : Blk w b 111 #[.slice (some ⟨bb, 0, none⟩) cap cap, .int .i64 fr, .int .i64 s.length]
  ring : Blk w bb 5 A
  size : A.size = cap
  pos : 1 ≤ cap
  le : cap ≤ 4096
  from_ : fr < cap
  len : s.length ≤ cap
  holds : Holds A cap fr s

def Fi (w : World) (b bb cap : Nat) (s : List UInt8) : Prop := ∃ fr A, FiAt w b bb cap fr A s

section
variable {w w' : World} {b bb cap fr : Nat} {A : Array Value} {s : List UInt8}
theorem FiAt.ne (h : FiAt w b bb cap fr A s) : b ≠ bb := h.head.ne_ h.ring (by decide)
theorem FiAt.c0 (h : FiAt w b bb cap fr A s) : w.cell? ⟨b, 0, none⟩ = some (.slice (some ⟨bb, 0, none⟩) cap cap) := h.head.cell 0
theorem FiAt.c1 (h : FiAt w b bb cap fr A s) : w.cell? ⟨b, 1, none⟩ = some (.int .i64 fr) := h.head.cell 1
theorem FiAt.c2 (h : FiAt w b bb cap fr A s) : w.cell? ⟨b, 2, none⟩ = some (.int .i64 s.length) := h.head.cell 2
theorem FiAt.keeps {S : List Nat} (h : FiAt w b bb cap fr A s) (hk : Keeps S w w') (h1 : b ∉ S) (h2 : bb ∉ S) : FiAt w' b bb cap fr A s :=
  ⟨h.head.keeps hk h1, h.ring.keeps hk h2, h.size, h.pos, h.le, h.from_, h.len, h.holds⟩
theorem Fi.keeps {S : List Nat} (h : Fi w b bb cap s) (hk : Keeps S w w') (h1 : b ∉ S) (h2 : bb ∉ S) : Fi w' b bb cap s := by
  obtain ⟨fr, A, h⟩ := h; exact ⟨fr, A, h.keeps hk h1 h2⟩
end

set_option maxHeartbeats 400000 in
theorem at_any (b bb cap fr i j : Nat) (hj : (fr + i) % cap = j) (w : World) (h0 : w.cell? ⟨b, 0, none⟩ = some (.slice (some ⟨bb, 0, none⟩) cap cap)) (h1 : w.cell? ⟨b, 1, none⟩ = some (.int .i64 fr))
    (hc : 1 ≤ cap) (hfc : fr < cap) (hc2 : cap ≤ 4096) (hi : i ≤ 1000000) :
    Calls Tryz.prog 89 #[.pointer (some ⟨b, 0, none⟩), .int .i64 i] w fun e w' => e = .returned (.int .i64 (j : Int)) ∧ ∃ n, w' = w.drewN n := by
  have HJ := Lib.hid hj
  clear hj
  go_enter Tryz.func89, Tryz.ntmps89
  go_wp2
  go_quiet (fail)
  go_wp2
  go_ret
  exact ⟨ret_int (by have := HJ.out; subst this; simp), _, rfl⟩

set_option maxHeartbeats 400000 in
theorem len_any (b bb cap : Nat) (s : List UInt8) (w : World) (h : Fi w b bb cap s) :
    Calls Tryz.prog 68 #[.pointer (some ⟨b, 0, none⟩)] w fun e w' => e = .returned (.int .i64 s.length) ∧ w = w' := by
  obtain ⟨fr, A, h⟩ := h
  have h2 := h.c2
  clear h
  go_enter Tryz.func68, Tryz.ntmps68
  go_wp2
  go_ret
  exact ⟨rfl, rfl⟩

theorem len_nil (w : World) :
    Calls Tryz.prog 68 #[.pointer none] w fun e w' => e = .returned (.int .i64 0) ∧ w = w' := by
  go_enter Tryz.func68, Tryz.ntmps68
  go_wp2
  go_ret
  exact ⟨rfl, rfl⟩

set_option maxHeartbeats 400000 in
theorem room_any (b bb cap : Nat) (s : List UInt8) (w : World) (h : Fi w b bb cap s) :
    Calls Tryz.prog 69 #[.pointer (some ⟨b, 0, none⟩)] w fun e w' => e = .returned (.int .i64 ((cap - s.length : Nat) : Int)) ∧ ∃ n, w' = w.drewN n := by
  obtain ⟨fr, A, h⟩ := h
  have h0 := h.c0
  have h2 := h.c2
  have hl := h.len
  have hle := h.le
  clear h
  go_enter Tryz.func69, Tryz.ntmps69
  go_wp2
  go_quiet (fail)
  go_wp2
  go_ret
  exact ⟨ret_int (by omega), _, rfl⟩

theorem room_nil (w : World) :
    Calls Tryz.prog 69 #[.pointer none] w fun e w' => e = .returned (.int .i64 0) ∧ w = w' := by
  go_enter Tryz.func69, Tryz.ntmps69
  go_wp2
  go_ret
  exact ⟨rfl, rfl⟩
end Go.Proofs.YtollcbacpoohlaaGreatDoor
