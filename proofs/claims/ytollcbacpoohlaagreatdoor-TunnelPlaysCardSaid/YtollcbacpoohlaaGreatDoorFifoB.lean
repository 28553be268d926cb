/- The walks of the queue's functions: put, cut, New. -/
import Derived.Test.YtollcbacpoohlaaGreatDoorFifoA
import Derived.Deep.RegionHeld3
import Derived.Deep.DrawnRows
namespace Go.Proofs.YtollcbacpoohlaaGreatDoor
open Go.RowKit
attribute [local go_sem ↓] Go.wp_at_zero Go.wp_at_succ

theorem mod_two (a c : Nat) (h : a < 2 * c) : a % c = if a < c then a else a - c := by
  split
  · exact Nat.mod_eq_of_lt (by assumption)
  · rw [Nat.mod_eq_sub_mod (by omega), Nat.mod_eq_of_lt (by omega)]

theorem Holds.snoc {A : Array Value} {cap fr : Nat} {s : List UInt8} (h : Holds A cap fr s) (hsz : A.size = cap) (hfr : fr < cap) (hlt : s.length < cap) (x : UInt8) :
    Holds (A.setIfInBounds ((fr + s.length) % cap) (.int .u8 (x.toNat : Int))) cap fr (s ++ [x]) := by
  intro i hi
  have hm : (fr + s.length) % cap < cap := Nat.mod_lt _ (by omega)
  have hmi : (fr + i) % cap < cap := Nat.mod_lt _ (by omega)
  simp only [List.length_append, List.length_cons, List.length_nil] at hi
  rw [Array.getElem?_setIfInBounds]
  by_cases he : i = s.length
  · subst he
    rw [if_pos rfl, if_pos (by omega)]
    simp
  · have hlt' : i < s.length := by omega
    have hne : (fr + s.length) % cap ≠ (fr + i) % cap := by
      intro hc
      rw [mod_two (fr + s.length) cap (by omega), mod_two (fr + i) cap (by omega)] at hc
      split at hc <;> split at hc <;> omega
    rw [if_neg hne, h i hlt', List.getElem_append_left]

theorem FiAt.put {w : World} {b bb cap fr j : Nat} {A : Array Value} {s : List UInt8} (h : FiAt w b bb cap fr A s) (hj : (fr + s.length) % cap = j) (hlt : s.length < cap) (n : Nat) (x : UInt8) :
    Fi (((w.drewN (1 + n)).setCell ⟨bb, j, none⟩ (.int .u8 (x.toNat : Int))).setCell ⟨b, 2, none⟩ (.int .i64 ((s.length : Int) + 1))) b bb cap (s ++ [x]) ∧
    Keeps [b, bb] w (((w.drewN (1 + n)).setCell ⟨bb, j, none⟩ (.int .u8 (x.toNat : Int))).setCell ⟨b, 2, none⟩ (.int .i64 ((s.length : Int) + 1))) := by
  refine ⟨⟨fr, A.setIfInBounds j (.int .u8 (x.toNat : Int)), ?_, ?_, by simp [h.size], h.pos, h.le, h.from_, by simp; omega, by subst hj; exact h.holds.snoc h.size h.from_ hlt x⟩, ?_⟩
  · have h1 := (((h.head.drewN (1 + n)).far (p := ⟨bb, j, none⟩) h.ne (.int .u8 (x.toNat : Int))).set_ 2 (.int .i64 ((s.length : Int) + 1)))
    simpa using h1
  · exact ((h.ring.drewN (1 + n)).set_ j _).far (p := ⟨b, 2, none⟩) h.ne.symm _
  · exact (((Keeps.refl [b, bb] w).drewN (1 + n)).setCell (p := ⟨bb, j, none⟩) (by simp) _).setCell (p := ⟨b, 2, none⟩) (by simp) _

set_option maxHeartbeats 1000000 in
theorem put_any (b bb cap : Nat) (s : List UInt8) (x : UInt8) (w : World) (h : Fi w b bb cap s) (hlt : s.length < cap) :
    Calls Tryz.prog 82 #[.pointer (some ⟨b, 0, none⟩), .int .u8 (x.toNat : Int)] w fun e w' => e = .returned (.tuple #[]) ∧ Fi w' b bb cap (s ++ [x]) ∧ Keeps [b, bb] w w' := by
  obtain ⟨fr, A, h⟩ := h
  obtain ⟨j, hj⟩ : ∃ j, (fr + s.length) % cap = j := ⟨_, rfl⟩
  have h0 := h.c0
  have h1 := h.c1
  have h2 := h.c2
  have hle := h.le
  have hpos := h.pos
  have hfr := h.from_
  have hff := h.head.frozen 2
  have hfb := h.ring.frozen j
  have hne := h.ne
  have hm : j < cap := by rw [← hj]; exact Nat.mod_lt _ (by omega)
  have hcell : ∃ u, w.cell? ⟨bb, j, none⟩ = some u := by
    rw [h.ring.cell]
    have := h.size
    exact ⟨A[j], Array.getElem?_eq_getElem (by omega)⟩
  obtain ⟨u, hu⟩ := hcell
  have hm1 : (0 : Int) ≤ (j : Int) := by omega
  have hm2 : (j : Int) < (cap : Int) := by omega
  have hk : ∀ (W : World) (o : Nat) (v : Value), (W.setCell ⟨bb, j, none⟩ v).cell? ⟨b, o, none⟩ = W.cell? ⟨b, o, none⟩ := fun W o v => World.cell?_setCell_other W _ _ v (by intro e; injection e with e1; exact hne e1.symm)
  have hkf : ∀ (W : World) (o : Nat) (v : Value), (W.setCell ⟨bb, j, none⟩ v).frozen? ⟨b, o, none⟩ = W.frozen? ⟨b, o, none⟩ := fun W o v => World.frozen?_setCell W _ _ v
  have H := Lib.hid h
  have HJ := Lib.hid hj
  clear h hj
  go_enter Tryz.func82, Tryz.ntmps82
  go_wp2_with (fail)
  go_region_held3 (fun w' => w'.cell? ⟨b, 0, none⟩ = some (.slice (some ⟨bb, 0, none⟩) cap cap) ∧ w'.cell? ⟨b, 2, none⟩ = some (.int .i64 s.length)) (go_keep) (first | (go_at_call 89; refine (at_any b bb cap fr s.length j HJ.out _ ?_ ?_ ?_ ?_ ?_ ?_).mono ?_ <;> first | (simp [*]; done) | omega | (rintro e w' ⟨rfl, n, rfl⟩)))
  all_goals go_wp2
  all_goals go_end0
  exact ⟨rfl, H.out.put HJ.out hlt n x⟩
end Go.Proofs.YtollcbacpoohlaaGreatDoor
