/- The walks of the reference's queue, and of the statements' 'want'. -/
import Derived.Test.YtollcbacpoohlaaGreatDoorFifoH
import Derived.Deep.RegionHeld3
import Derived.Deep.DrawnRows
namespace Go.Proofs.YtollcbacpoohlaaGreatDoor
open Go.RowKit
attribute [local go_sem ↓] Go.wp_at_zero Go.wp_at_succ

/-- The reference's queue at block b: a capacity, a text. -/
def Ri (w : World) (b cap : Nat) (S : ByteArray) : Prop := Blk w b 88 #[.int .i64 cap, .string S]
theorem Ri.c0 {w : World} {b cap : Nat} {S : ByteArray} (h : Ri w b cap S) : w.cell? ⟨b, 0, none⟩ = some (.int .i64 cap) := Blk.cell h 0
theorem Ri.c1 {w : World} {b cap : Nat} {S : ByteArray} (h : Ri w b cap S) : w.cell? ⟨b, 1, none⟩ = some (.string S) := Blk.cell h 1
theorem Ri.keeps {w w' : World} {b cap : Nat} {S : ByteArray} {L : List Nat} (h : Ri w b cap S) (hk : Keeps L w w') (hb : b ∉ L) : Ri w' b cap S := Blk.keeps h hk hb
theorem Ri.set {w : World} {b cap : Nat} {S : ByteArray} (h : Ri w b cap S) (T : ByteArray) : Ri (w.setCell ⟨b, 1, none⟩ (.string T)) b cap T := by
  have := Blk.set_ h 1 (.string T)
  simpa [Ri] using this

theorem rnew_bad (n : Int) (w : World) (h : n < 1 ∨ 4096 < n) :
    Calls Tryz.prog 19 #[.int .i64 n] w fun e w' => e = .returned (.tuple #[.pointer none, .int .i64 2]) ∧ w = w' := by
  by_cases h1 : n < 1
  · clear h
    go_enter Tryz.func19, Tryz.ntmps19
    go_wp2
    go_ret2
    exact ⟨rfl, rfl⟩
  · have h2 : 4096 < n := by omega
    clear h
    go_enter Tryz.func19, Tryz.ntmps19
    go_wp2
    go_ret2
    exact ⟨rfl, rfl⟩
theorem rnew_ok (cap : Nat) (w : World) (h1 : 1 ≤ cap) (h2 : cap ≤ 4096) :
    Calls Tryz.prog 19 #[.int .i64 cap] w fun e w' => e = .returned (.tuple #[.pointer (some ⟨w.heap.size, 0, none⟩), .int .i64 0]) ∧ Ri w' w.heap.size cap ⟨#[]⟩ ∧ Keeps [] w w' := by
  have h1' : ¬ (cap : Int) < 1 := by omega
  have h2' : ¬ (4096 : Int) < (cap : Int) := by omega
  go_enter Tryz.func19, Tryz.ntmps19
  go_wp2
  go_ret2
  exact ⟨rfl, Blk.new w _ _, (Keeps.refl [] w).alloc _⟩

theorem rclear_any (b cap : Nat) (S : ByteArray) (w : World) (h : Ri w b cap S) :
    Calls Tryz.prog 75 #[.pointer (some ⟨b, 0, none⟩)] w fun e w' => e = .returned (.int .i64 S.size) ∧ Ri w' b cap ⟨#[]⟩ ∧ Keeps [b] w w' := by
  have h1 := h.c1
  have hf := Blk.frozen h 1
  have H := Lib.hid h
  clear h
  go_enter Tryz.func75, Tryz.ntmps75
  go_wp2
  go_ret
  exact ⟨rfl, H.out.set _, (Keeps.refl [b] w).setCell (p := ⟨b, 1, none⟩) (by simp) _⟩

set_option maxHeartbeats 1000000 in
theorem rpeek_any (b cap m : Nat) (n : Int) (S T : ByteArray) (w : World) (h : Ri w b cap S) (hm : min n.toNat S.size = m) (hT : S.extract 0 m = T) :
    Calls Tryz.prog 77 #[.pointer (some ⟨b, 0, none⟩), .int .i64 n] w fun e w' => e = .returned (.string T) ∧ ∃ k, w' = w.drewN k := by
  have h1 := h.c1
  have e : (if (S.size : Int) < (if n < 0 then 0 else n) then (S.size : Int) else (if n < 0 then 0 else n)).toNat = m := by
    by_cases h0 : n < 0
    · simp only [if_pos h0]; split <;> omega
    · simp only [if_neg h0]; split <;> omega
  have E1 := Lib.hid e
  have HT := Lib.hid hT
  clear h hT hm e
  go_enter Tryz.func77, Tryz.ntmps77
  go_wp2
  go_quiet (fail)
  rw [E1.out, HT.out]
  generalize (if (S.size : Int) < (if n < 0 then 0 else n) then (S.size : Int) else (if n < 0 then 0 else n)) = M
  generalize (if n < 0 then 0 else n) = N
  go_wp2
  go_ret
  exact ⟨rfl, _, rfl⟩

theorem rpop_any (b cap m : Nat) (n : Int) (S T U : ByteArray) (w : World) (h : Ri w b cap S) (hm : min n.toNat S.size = m) (hT : S.extract 0 m = T) (hU : S.extract m S.size = U) :
    Calls Tryz.prog 57 #[.pointer (some ⟨b, 0, none⟩), .int .i64 n] w fun e w' => e = .returned (.string T) ∧ Ri w' b cap U ∧ Keeps [b] w w' := by
  have h1 := h.c1
  have hf := Blk.frozen h 1
  have hTz : T.size = m := by rw [← hT]; simp; omega
  have hsl : ∀ W : World, (Instr.slice 9 (.string S) (some (.int .i64 (T.size : Int))) none none).run Tryz.prog W = .ok (.string U) W := fun W => by
    have := run_slice_string_l (P := Tryz.prog) (w := W) (t := 9) (s := S) Tryz.underlying9 .i64 (T.size : Int) (by omega) (by omega)
    rw [← hU, ← hTz]; simpa using this
  have C := Lib.hid (rpeek_any b cap m n S T w h hm hT)
  have H := Lib.hid h
  clear h hT hU hm hTz
  go_enter Tryz.func57, Tryz.ntmps57
  go_wp2_with (fail)
  refine (Hid.out C).mono ?_
  rintro e w1 ⟨rfl, k, rfl⟩
  go_wp2_with (fail)
  go_ret
  exact ⟨rfl, Ri.set (Ri.keeps H.out ((Keeps.refl [] w).drewN k) (by simp)) _, ((Keeps.refl [b] w).drewN k).setCell (p := ⟨b, 1, none⟩) (by simp) _⟩

set_option maxHeartbeats 1000000 in
theorem rpush_any (b cap m : Nat) (s S T U : ByteArray) (w : World) (h : Ri w b cap S) (hS : S.size ≤ cap) (hc : cap ≤ 4096) (hs : s.size ≤ 1000000) (hm : min s.size (cap - S.size) = m) (hT : s.extract 0 m = T) (hU : S ++ T = U) :
    Calls Tryz.prog 55 #[.pointer (some ⟨b, 0, none⟩), .string s] w fun e w' => e = .returned (.int .i64 m) ∧ Ri w' b cap U ∧ Keeps [b] w w' := by
  have h0 := h.c0
  have h1 := h.c1
  have hf := Blk.frozen h 1
  obtain ⟨R, hR⟩ : ∃ R, cap - S.size = R := ⟨_, rfl⟩
  have hw : IntKind.i64.wrap ((cap : Int) - (S.size : Int)) = (R : Int) := by rw [IntWalk.i64_in _ (by omega)]; omega
  have hif2 : (if R < s.size then (R : Int) else (s.size : Int)) = (m : Int) := by split <;> omega
  have hif : (if (R : Int) < (s.size : Int) then (R : Int) else (s.size : Int)) = (m : Int) := by split <;> omega
  have hsl : ∀ W : World, (Instr.slice 9 (.string s) none (some (.int .i64 (m : Int))) none).run Tryz.prog W = .ok (.string T) W := fun W => by
    have := run_slice_string_h (P := Tryz.prog) (w := W) (t := 9) (s := s) Tryz.underlying9 .i64 (m : Int) (by omega) (by omega)
    rw [← hT]; simpa using this
  have hTz : T.size ≤ 1000000 := by rw [← hT]; simp; omega
  have hbd : ¬ 9223372036854775807 < S.size + T.size := by omega
  have H := Lib.hid h
  have HU := Lib.hid hU
  clear h hm hT hR hU
  go_enter Tryz.func55, Tryz.ntmps55
  go_wp2_with (fail)
  go_quiet (fail)
  go_wp2_with (fail)
  refine wp_region_held_drew (S := (fun _ => True)) (by kernel_rfl) ?_ (fun hHeld => ?_)
  · trivial
  refine wpAnyH_take (i := 0) (v := ?_) rfl (by kernel_rfl) (by kernel_rfl) (by kernel_rfl) (fun _ _ _ h => h) (Or.inl ⟨by rfl, ?_⟩) (by assumption) ?_
  rotate_left; · ((intro w hSw; (try dsimp only at hSw); go_simp); try with_reducible rfl)
  (try simp only [Act.put]); (try simp only [List.setIfInBounds_toArray]); (try simp only [List.set_cons_succ]); (try simp only [List.set_cons_zero])
  refine wpAnyH_take (i := 1) (v := ?_) rfl (by kernel_rfl) (by kernel_rfl) (by kernel_rfl) (fun _ _ _ h => h) (Or.inl ⟨by rfl, ?_⟩) (by assumption) ?_
  rotate_left; · ((intro w hSw; (try dsimp only at hSw); go_simp); try with_reducible rfl)
  (try simp only [Act.put]); (try simp only [List.setIfInBounds_toArray]); (try simp only [List.set_cons_succ]); (try simp only [List.set_cons_zero])
  refine wpAnyH_take (i := 2) (v := ?_) rfl (by kernel_rfl) (by kernel_rfl) (by kernel_rfl) (fun _ _ _ h => h) (Or.inl ⟨by rfl, ?_⟩) (by assumption) ?_
  rotate_left; · ((intro w hSw; (try dsimp only at hSw); go_simp); try with_reducible rfl)
  (try simp only [Act.put]); (try simp only [List.setIfInBounds_toArray]); (try simp only [List.set_cons_succ]); (try simp only [List.set_cons_zero])
  refine wpAnyH_take (i := 3) (v := ?_) rfl (by kernel_rfl) (by kernel_rfl) (by kernel_rfl) (fun _ _ _ h => h) (Or.inl ⟨by rfl, ?_⟩) (by assumption) ?_
  rotate_left; · ((intro w hSw; (try dsimp only at hSw); go_simp); try with_reducible rfl)
  (try simp only [Act.put]); (try simp only [List.setIfInBounds_toArray]); (try simp only [List.set_cons_succ]); (try simp only [List.set_cons_zero])
  refine wpAnyH_take (i := 5) (v := ?_) rfl (by kernel_rfl) (by kernel_rfl) (by kernel_rfl) (fun _ _ _ h => h) (Or.inl ⟨by rfl, ?_⟩) (by assumption) ?_
  rotate_left; · ((intro w hSw; (try dsimp only at hSw); go_simp); try with_reducible rfl)
  (try simp only [Act.put]); (try simp only [List.setIfInBounds_toArray]); (try simp only [List.set_cons_succ]); (try simp only [List.set_cons_zero])
  refine wpAnyH_take (i := 6) (v := ?_) rfl (by kernel_rfl) (by kernel_rfl) (by kernel_rfl) (fun _ _ _ h => h) (Or.inl ⟨by rfl, ?_⟩) (by assumption) ?_
  rotate_left; · ((intro w hSw; (try dsimp only at hSw); go_simp); try with_reducible rfl)
  (try simp only [Act.put]); (try simp only [List.setIfInBounds_toArray]); (try simp only [List.set_cons_succ]); (try simp only [List.set_cons_zero])
  refine wpAnyH_take (i := 7) (v := ?_) rfl (by kernel_rfl) (by kernel_rfl) (by kernel_rfl) (fun _ _ _ h => h) (Or.inl ⟨by rfl, ?_⟩) (by assumption) ?_
  rotate_left; · ((intro w hSw; (try dsimp only at hSw); go_simp); try with_reducible rfl)
  (try simp only [Act.put]); (try simp only [List.setIfInBounds_toArray]); (try simp only [List.set_cons_succ]); (try simp only [List.set_cons_zero])
  refine wpAnyH_ready (rs := [4]) (by kernel_rfl) (by simp) ?_
  refine AllReadyH.cons rfl (fun K hK => ?_) ?_
  · go_simp
    refine hK.out _ _ ?_ (fun hHeld => ?_)
    · trivial
    clear hK K
    (try simp only [Act.put]); (try simp only [List.setIfInBounds_toArray]); (try simp only [List.set_cons_succ]); (try simp only [List.set_cons_zero])
    refine wpAnyH_take (i := 8) (v := ?_) rfl (by kernel_rfl) (by kernel_rfl) (by kernel_rfl) (fun _ _ _ h => h) (Or.inl ⟨by rfl, ?_⟩) (by assumption) ?_
    rotate_left; · ((intro w hSw; (try dsimp only at hSw); go_simp); try with_reducible rfl)
    (try simp only [Act.put]); (try simp only [List.setIfInBounds_toArray]); (try simp only [List.set_cons_succ]); (try simp only [List.set_cons_zero])
    refine wpAnyH_take (i := 9) (v := ?_) rfl (by kernel_rfl) (by kernel_rfl) (by kernel_rfl) (fun _ _ _ h => h) (Or.inl ⟨by rfl, ?_⟩) (by assumption) ?_
    rotate_left; · ((intro w hSw; (try dsimp only at hSw); go_simp); try with_reducible rfl)
    (try simp only [Act.put]); (try simp only [List.setIfInBounds_toArray]); (try simp only [List.set_cons_succ]); (try simp only [List.set_cons_zero])
    refine wpAnyH_take (i := 10) (v := ?_) rfl (by kernel_rfl) (by kernel_rfl) (by kernel_rfl) (fun _ _ _ h => h) (Or.inl ⟨by rfl, ?_⟩) (by assumption) ?_
    rotate_left; · ((intro w hSw; (try dsimp only at hSw); go_simp); try with_reducible rfl)
    (try simp only [Act.put]); (try simp only [List.setIfInBounds_toArray]); (try simp only [List.set_cons_succ]); (try simp only [List.set_cons_zero])
    refine wpAnyH_ready (rs := [11]) (by kernel_rfl) (by simp) ?_
    refine AllReadyH.cons rfl (fun K hK => ?_) ?_
    · go_simp
      refine hK.out _ _ ?_ (fun hHeld => ?_)
      · trivial
      clear hK K
      (try simp only [Act.put]); (try simp only [List.setIfInBounds_toArray]); (try simp only [List.set_cons_succ]); (try simp only [List.set_cons_zero])
      refine wpAnyH_done (by kernel_rfl) ?_ _
      go_wp2_with (fail)
      go_ret
      exact ⟨rfl, by rw [HU.out]; exact Ri.set (Ri.keeps H.out ((Keeps.refl [] w).drewN _) (by simp)) _, ((Keeps.refl [b] w).drewN _).setCell (p := ⟨b, 1, none⟩) (by simp) _⟩
    exact AllReadyH.nil
  exact AllReadyH.nil
end Go.Proofs.YtollcbacpoohlaaGreatDoor
