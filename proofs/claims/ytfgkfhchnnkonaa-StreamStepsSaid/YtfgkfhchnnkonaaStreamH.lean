/- A law's argument that is a slice of numbers. -/
import Derived.Test.YtfgkfhchnnkonaaStreamG
import Derived.Test.YtfgkfhchnnkonaaLaw
import Derived.Deep.Slices
import Derived.Deep.Fields
namespace Go.Proofs.Ytfgkfhchnnkonaa
open Go.RowKit Go.WideShapes Go.ChangeShapes Go.Deep
attribute [local go_sem ↓] Go.wp_at_zero Go.wp_at_succ

/-- The slice at a, of capacity c, holds these numbers. -/
structure IntsArg (w : World) (a : Option Addr) (c : Nat) (xs : List Int) : Prop where
  le : xs.length ≤ c
  small : xs.length ≤ maxLen
  at_ : xs ≠ [] → ∃ b off, a = some ⟨b, off, none⟩ ∧ b < w.heap.size ∧ IntsAt w b off xs

theorem IntsArg.keeps {w w' : World} {a : Option Addr} {c : Nat} {xs : List Int} (h : IntsArg w a c xs) (hk : Keeps [] w w') : IntsArg w' a c xs :=
  ⟨h.le, h.small, fun hn => by
    obtain ⟨b, off, ha, hb, hat⟩ := h.at_ hn
    exact ⟨b, off, ha, Nat.lt_of_lt_of_le hb hk.size, fun i hi => (hk.cell (p := ⟨b, off + i, none⟩) hb (by simp)).trans (hat i hi)⟩⟩
theorem IntsArg.take {w : World} {a : Option Addr} {c : Nat} {xs : List Int} (h : IntsArg w a c xs) (k : Nat) : IntsArg w a c (xs.take k) :=
  ⟨by have := h.le; simp; omega, by have := h.small; simp; omega, fun hn => by
    obtain ⟨b, off, ha, hb, hat⟩ := h.at_ (by rintro rfl; simp at hn)
    exact ⟨b, off, ha, hb, fun i hi => by
      have hi2 : i < xs.length := by simp at hi; omega
      rw [hat i hi2]; simp⟩⟩

section
variable {H : Type} {enc : TypeId × Value → H} {W : World} {base : Nat} {spare : Nat → Bool} {held : Bool}
theorem tint_one : Try.prog.cellsOf 3 = 1 := by kernel_rfl
theorem open_nums {v : Value} {d : DataW H} {p : List MemPlace} (hv : Value.okWide Try.prog W .any 0 22 v) (h : DataW.Trod enc Try.prog W 0 (fun _ => true) true 22 v d p) :
    ∃ (a : Option Addr) (xs : List Int) (c : Nat), v = .slice a xs.length c ∧ IntsArg W a c xs := by
  obtain ⟨a0, len, cap, rfl⟩ := okWide_slice Try.underlying22 hv
  obtain ⟨fuel, hf⟩ := h
  rcases open_slice Try.underlying22 hf with ⟨hcs, _⟩ | ⟨a, len', cap', m, n, D, Pl, hcs, _, hl, hm, hmm, _, hx⟩
  · have hcs' : Value.slice a0 len cap = .slice none 0 0 := by simpa [Value.cells] using hcs
    injection hcs' with e1 e2 e3
    subst e1 e2 e3
    exact ⟨none, [], 0, rfl, by simp, by simp, fun h0 => absurd rfl h0⟩
  · have hcs' : Value.slice a0 len cap = .slice (some a) len' cap' := by simpa [Value.cells] using hcs
    injection hcs' with e1 e2 e3
    subst e1 e2 e3
    have hlm : len ≤ m := by rw [hmm]; simp only [if_true]; exact hl
    have hel : ∀ i, i < len → ∃ o : Int, W.cell? ((a.add (i * 1)).add 0) = some (.int .i64 o) := fun i hi => by
      obtain ⟨cs', h1, h2⟩ := hx i (by omega)
      rw [tint_one] at h1
      obtain ⟨_, hcl, hat⟩ := World.cells?_some h1
      match cs', hcl with
      | [c0], _ =>
        obtain ⟨k, e0, _, _⟩ := DataW.trod_int Try.underlying3 h2
        obtain rfl : c0 = .int .i64 k := by simpa using e0
        exact ⟨k, hat 0 (by omega)⟩
    obtain ⟨X, hX⟩ := choose_lt hel
    refine ⟨some a, (List.range len).map X, cap, by simp, by simpa using hl, by unfold maxLen at hm ⊢; simp; omega, fun h0 => ?_⟩
    have h0' : 0 < len := by
      rcases Nat.eq_zero_or_pos len with e | e
      · subst e; simp at h0
      · exact e
    obtain ⟨b, off, spot⟩ := a
    have hsp : spot = none := by
      have := hX 0 h0'
      simp only [Nat.zero_mul, Addr.add, if_true] at this
      unfold World.cell? at this
      split at this
      · split at this
        · cases this
        · rename_i hn; simpa using hn
      · cases this
    subst hsp
    have hadd : ∀ i, ((⟨b, off, none⟩ : Addr).add (i * 1)).add 0 = ⟨b, off + i, none⟩ := fun i => by
      unfold Addr.add
      split <;> simp_all
    refine ⟨b, off, rfl, ?_, fun i hi => ?_⟩
    · have := hX 0 h0'
      rw [hadd] at this
      exact World.block_lt_of_cell? W _ this
    · have hi' : i < len := by simpa using hi
      have := hX i hi'
      rw [hadd] at this
      simp only [List.getElem_map, List.getElem_range]
      exact this
end

theorem tints_elem : Try.prog.underlying 22 = some (.slice (Try.prog.elem 22)) := by kernel_rfl
theorem tints_size (W : World) : (sizeOf (Try.prog.elem 22)).run Try.prog W = .ok 1 W := by kernel_rfl
theorem add_zero_none (a : Option Addr) (c : Nat) : (if c = 0 then a else a.map (·.add (0 * 1))) = a := by
  split
  · rfl
  · cases a with
    | none => rfl
    | some a => simp [Addr.add]
/-- l[:k]. -/
theorem slice_to (a : Option Addr) (n c k : Nat) (hk : k ≤ c) (W : World) : (Instr.slice 22 (.slice a n c) none (some (.int .i64 (k : Int))) none).run Try.prog W = .ok (.slice a k c) W := by
  have h := run_slice_h (P := Try.prog) W 22 a n c tints_elem .i64 (k : Int) (by omega) (by omega)
  rw [h, tints_size]
  show Result.ok (sliced a 0 (k : Int).toNat c 1) W = _
  unfold sliced
  rw [add_zero_none]
  simp
theorem few_min (xs : List Int) : ∃ M : Nat, (if (20 : Int) < (xs.length : Int) then (20 : Int) else (xs.length : Int)) = (M : Int) ∧ M = (xs.take 20).length ∧ M ≤ xs.length :=
  ⟨(xs.take 20).length, by simp; split <;> omega, rfl, by simp; omega⟩
theorem few_any (a : Option Addr) (c : Nat) (xs : List Int) (w : World) (h : IntsArg w a c xs) :
    Calls Try.prog 11 #[.slice a xs.length c] w fun r w' => r = .returned (.slice a (xs.take 20).length c) ∧ w = w' := by
  obtain ⟨M, hM, hMl, hle⟩ := few_min xs
  have hsl := slice_to a xs.length c M (by have := h.le; omega)
  rw [← hMl]
  clear h hle hMl
  go_enter Try.func11, Try.ntmps11
  go_wp2
  go_ret
  exact ⟨rfl, rfl⟩

set_option maxHeartbeats 1000000 in
theorem run_none (s : Nat) (hs : s ≤ 6) (a : Option Addr) (c : Nat) (w : World) :
    Calls Try.prog 12 #[.int .i64 s, .slice a 0 c] w fun r w' => r = .returned (.tuple #[.int .i64 s, .int .i64 0, .int .i64 0]) ∧ Keeps [] w w' := by
  have hd : decide (0 ≤ (s : Int) ∧ (s : Int) < 7) = true := by simp; omega
  have HD := Lib.hid hd
  clear hd
  go_enter Try.func12, Try.ntmps12
  go_wp2_with (fail)
  refine (isState_any _ _ HD.out _).mono ?_
  rintro r w1 ⟨rfl, rfl⟩
  have c0 := Blk.cell (Blk.new w 40 #[.int .i64 (s : Int)]) 0
  go_wp2_with (fail)
  go_loopw [9] (fun i wr => i = .int .i64 0 ∧ w.alloc (.cells #[.int .i64 (s : Int)] 40) = wr) (fun _ _ => 0)
  case atStart => exact ⟨rfl, rfl⟩
  case round =>
    obtain ⟨rfl, rfl⟩ := hrel
    go_wp2
    exact bodyPost_ret (v := .tuple #[.int .i64 s, .int .i64 0, .int .i64 0]) (by simp [results, Try.results12, go_sem]) rfl ⟨rfl, (Keeps.refl [] w).alloc _⟩

/-- Run's answer. -/
def runA (s : Int) (xs : List Int) : Int × Int × Int := if 0 ≤ s ∧ s < 7 then (((runS s.toNat xs).1 : Int), ((runS s.toNat xs).2 : Int), 0) else (0, 0, 2)

theorem run_arg (s : Int) (a : Option Addr) (c : Nat) (xs : List Int) (w : World) (h : IntsArg w a c xs) (hl : xs.length ≤ 20) (x y z : Int) (hxy : runA s xs = (x, y, z)) :
    Calls Try.prog 12 #[.int .i64 s, .slice a xs.length c] w fun r w' => r = .returned (.tuple #[.int .i64 x, .int .i64 y, .int .i64 z]) ∧ Keeps [] w w' := by
  unfold runA at hxy
  by_cases hs : 0 ≤ s ∧ s < 7
  · rw [if_pos hs] at hxy
    obtain ⟨n, rfl⟩ : ∃ n : Nat, s = n := ⟨s.toNat, by omega⟩
    rw [Int.toNat_natCast] at hxy
    injection hxy with h1 h2
    injection h2 with h2 h3
    subst h1 h2 h3
    by_cases hx : xs = []
    · subst hx
      exact run_none n (by omega) a c w
    · obtain ⟨b, off, rfl, _, hat⟩ := h.at_ hx
      exact run_any n (by omega) xs b off c w hat (by omega) _ _ rfl
  · rw [if_neg hs] at hxy
    injection hxy with h1 h2
    injection h2 with h2 h3
    subst h1 h2 h3
    exact run_bad s _ hs w
end Go.Proofs.Ytfgkfhchnnkonaa
