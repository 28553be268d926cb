/- The walks of the queue's functions: New, cut. -/
import Derived.Test.YtollcbacpoohlaaGreatDoorFifoB
import Derived.Laws.MakeOwn
namespace Go.Proofs.YtollcbacpoohlaaGreatDoor
open Go.RowKit

theorem new_bad (n : Int) (w : World) (h : n < 1 ∨ 4096 < n) :
    Calls Tryz.prog 43 #[.int .i64 n] w fun e w' => e = .returned (.tuple #[.pointer none, .int .i64 2]) ∧ w = w' := by
  by_cases h1 : n < 1
  · clear h
    go_enter Tryz.func43, Tryz.ntmps43
    go_wp2
    go_ret2
    exact ⟨rfl, rfl⟩
  · have h2 : 4096 < n := by omega
    clear h
    go_enter Tryz.func43, Tryz.ntmps43
    go_wp2
    go_ret2
    exact ⟨rfl, rfl⟩

theorem tu8_info : (Tryz.prog.info? 5).map (fun i => (i.zero, i.size, i.bytes)) = some (some (.int .u8 0), 1, 1) := by kernel_rfl

set_option maxHeartbeats 400000 in
theorem new_ok (cap : Nat) (w : World) (h1 : 1 ≤ cap) (h2 : cap ≤ 4096) :
    Calls Tryz.prog 43 #[.int .i64 cap] w fun e w' => e = .returned (.tuple #[.pointer (some ⟨w.heap.size + 1, 0, none⟩), .int .i64 0]) ∧ Fi w' (w.heap.size + 1) w.heap.size cap [] ∧ Keeps [] w w' ∧ w.heap.size + 1 < w'.heap.size := by
  obtain ⟨i0, hi, hz0, hz1, hz2⟩ := info_parts tu8_info
  have hmk := fun W => run_make_rowN (P := Tryz.prog) 107 5 i0 _ Tryz.underlying107 hi hz0 .i64 .i64 cap cap (Nat.le_refl _) (by rw [hz2]; omega) (by omega) W
  rw [hz1] at hmk
  simp only [Nat.mul_one] at hmk
  clear hi hz0 hz1 hz2
  have h1' : ¬ (cap : Int) < 1 := by omega
  have h2' : ¬ (4096 : Int) < (cap : Int) := by omega
  go_enter Tryz.func43, Tryz.ntmps43
  go_wp2
  go_ret2
  refine ⟨rfl, ⟨0, madeCells #[.int .u8 0] cap, ?_, ?_, size_madeCells _ _, h1, h2, by omega, by simp, fun i hi => by simp at hi⟩, ((Keeps.refl [] w).alloc _).alloc _, by simp⟩
  · have := Blk.new (w.alloc (.cells (madeCells #[.int .u8 0] cap) 5)) 111 #[.slice (some ⟨w.heap.size, 0, none⟩) cap cap, .int .i64 0, .int .i64 0]
    simpa using this
  · exact (Blk.new w 5 _).alloc _

set_option maxHeartbeats 400000 in
theorem cut_any (s : ByteArray) (n a o : Nat) (w : World) (hc : w.cell? ⟨a, o, none⟩ = some (.int .i64 n)) (hn : n ≤ 1000000) (hs : s.size ≤ maxLen) :
    Calls Tryz.prog 83 #[.string s, .slice (some ⟨a, o, none⟩) 1 1] w fun e w' => e = .returned (.string (s.extract 0 (min s.size n))) ∧ w = w' := by
  unfold maxLen at hs
  go_enter Tryz.func83, Tryz.ntmps83
  go_wp2
  go_loop [0, 9] (fun t i => ∃ k : Nat, k ≤ 1 ∧ i = .int .i64 k ∧ t = .string (if k = 0 then s else s.extract 0 (min s.size n))) (fun _ i => 1 - (intOf i).toNat)
  case atStart => exact ⟨0, by omega, rfl, rfl⟩
  case round =>
    obtain ⟨k, hk, rfl, rfl⟩ := hrel
    by_cases h0 : k = 0
    · subst h0
      go_wp2
      go_round
      case rel => exact ⟨1, by omega, by go_num, by simp; congr 1; split <;> omega⟩
      case measure => simp [intOf]
    · obtain rfl : k = 1 := by omega
      go_wp2
      go_ret
      exact ⟨by simp, rfl⟩
theorem cut_eq (s t : ByteArray) (n a o : Nat) (ht : s.extract 0 (min s.size n) = t) (w : World) (hc : w.cell? ⟨a, o, none⟩ = some (.int .i64 n)) (hn : n ≤ 1000000) (hs : s.size ≤ maxLen) :
    Calls Tryz.prog 83 #[.string s, .slice (some ⟨a, o, none⟩) 1 1] w fun e w' => e = .returned (.string t) ∧ w = w' := by
  subst ht; exact cut_any s n a o w hc hn hs
end Go.Proofs.YtollcbacpoohlaaGreatDoor
