/- The walk of the document's tunnel's New. -/
import Derived.Test.YtollcbacpoohlaaGreatDoorTunRD
namespace Go.Proofs.YtollcbacpoohlaaGreatDoor
open Go.RowKit
attribute [local go_sem ↓] Go.wp_at_zero Go.wp_at_succ

theorem vNew_bad (n : Int) (w : World) (h : n < 1 ∨ 4096 < n) :
    Calls Tryz.prog 7 #[.int .i64 n] w fun e w' => e = .returned (.tuple #[.pointer none, .int .i64 2]) ∧ Keeps [] w w' := by
  have H := Lib.hid (fun w => rnew_bad n w h)
  clear h
  go_enter Tryz.func7, Tryz.ntmps7
  go_wp2_with (fail)
  refine wp_loop_rounds 1 ?_
  rw [rounds_succ]
  go_wp2_with (fail)
  refine (H.out _).mono ?_
  rintro e w1 ⟨rfl, rfl⟩
  go_wp2_with (fail)
  refine (H.out _).mono ?_
  rintro e w1 ⟨rfl, rfl⟩
  go_wp2
  go_ret2
  exact ⟨rfl, (Keeps.refl [] w).alloc _⟩

theorem rnew_al (cap : Nat) (w : World) (h1 : 1 ≤ cap) (h2 : cap ≤ 4096) :
    Calls Tryz.prog 19 #[.int .i64 cap] w fun e w' => e = .returned (.tuple #[.pointer (some ⟨w.heap.size, 0, none⟩), .int .i64 0]) ∧ w.alloc (.cells #[.int .i64 cap, .string ⟨#[]⟩] 88) = w' := by
  have h1' : ¬ (cap : Int) < 1 := by omega
  have h2' : ¬ (4096 : Int) < (cap : Int) := by omega
  go_enter Tryz.func19, Tryz.ntmps19
  go_wp2
  go_ret2
  exact ⟨rfl, rfl⟩

/-- A way laid in three new blocks. -/
theorem RwAt.new3 (w : World) (cap b : Nat) (hb : w.heap.size = b) (h2 : cap ≤ 4096) (W : World) (hW : ((w.alloc (.cells #[.int .i64 cap, .string ⟨#[]⟩] 88)).alloc (.cells #[.int .i64 cap, .string ⟨#[]⟩] 88)).alloc (.cells #[.pointer (some ⟨b, 0, none⟩), .pointer (some ⟨b + 1, 0, none⟩), .int .i64 0, .int .i64 0, .int .i64 0, .int .i64 0, .int .i64 0] 66) = W) :
    RwAt W ⟨b + 1 + 1, b, b + 1⟩ cap Wy.zero ∧ Keeps [] w W ∧ W.heap.size = b + 3 := by
  subst hW hb
  refine ⟨⟨?_, ?_, ?_, ?_, WyOk.zero cap, h2⟩, (((Keeps.refl [] w).alloc _).alloc _).alloc _, by simp⟩
  · exact Blk.new2 _ _ _ _ (by simp)
  · exact ((Blk.new w _ _).alloc _).alloc _
  · exact (Blk.new2 (w.alloc _) _ _ _ (by simp)).alloc _
  · simp only [RL.l, List.nodup_cons, List.mem_cons, List.not_mem_nil, or_false, not_or, List.nodup_nil, and_true, not_false_eq_true]; omega

set_option maxHeartbeats 2000000 in
theorem vNew_ok (cap : Nat) (w : World) (h1 : 1 ≤ cap) (h2 : cap ≤ 4096) :
    Calls Tryz.prog 7 #[.int .i64 cap] w fun e w' => ∃ T : RT, e = .returned (.tuple #[.pointer (some ⟨T.b, 0, none⟩), .int .i64 0]) ∧ RtAt w' T cap Tu.zero ∧ Keeps [] w w' ∧ ∀ k ∈ T.l, w.heap.size ≤ k := by
  have HN := Lib.hid (fun w => rnew_al cap w h1 h2)
  go_enter Tryz.func7, Tryz.ntmps7
  go_wp2_with (fail)
  refine wp_loop_rounds 3 ?_
  rw [rounds_succ]
  go_wp2_with (fail)
  refine (HN.out _).mono ?_
  rintro e w1 ⟨rfl, rfl⟩
  go_wp2_with (fail)
  refine (HN.out _).mono ?_
  rintro e w1 ⟨rfl, rfl⟩
  go_wp2_with (fail)
  rw [rounds_succ]
  go_wp2_with (fail)
  refine (HN.out _).mono ?_
  rintro e w1 ⟨rfl, rfl⟩
  go_wp2_with (fail)
  refine (HN.out _).mono ?_
  rintro e w1 ⟨rfl, rfl⟩
  go_wp2_with (fail)
  rw [rounds_succ]
  go_wp2_with (fail)
  go_ret2
  obtain ⟨r1, k1, s1⟩ := RwAt.new3 (w.alloc (.cells #[.int .i64 0, .pointer (some ⟨w.heap.size + 1 + 1 + 1, 0, none⟩), .pointer (some ⟨w.heap.size + 1 + 1 + 1 + 1 + 1 + 1, 0, none⟩)] 43)) cap (w.heap.size + 1) (by simp) h2 _ rfl
  obtain ⟨r2, k2, s2⟩ := RwAt.new3 _ cap (w.heap.size + 1 + 1 + 1 + 1) s1 h2 _ rfl
  refine ⟨⟨w.heap.size, ⟨w.heap.size + 1 + 1 + 1, w.heap.size + 1, w.heap.size + 1 + 1⟩, ⟨w.heap.size + 1 + 1 + 1 + 1 + 1 + 1, w.heap.size + 1 + 1 + 1 + 1, w.heap.size + 1 + 1 + 1 + 1 + 1⟩⟩, rfl, ⟨((Blk.new w _ _).keeps k1 (by simp)).keeps k2 (by simp), r1.keeps k2 (by simp), r2, ?_, ⟨by simp [Tu.zero], .inl rfl, .inl rfl⟩⟩, (((Keeps.refl [] w).alloc _).trans k1).trans k2, ?_⟩
  · simp only [RT.l, RL.l, List.cons_append, List.nil_append, List.nodup_cons, List.mem_cons, List.not_mem_nil, or_false, not_or, List.nodup_nil, and_true, not_false_eq_true]
    omega
  · intro k hk
    simp only [RT.l, RL.l, List.cons_append, List.nil_append, List.mem_cons, List.not_mem_nil, or_false] at hk
    omega
end Go.Proofs.YtollcbacpoohlaaGreatDoor
