/- The walk of slices.DeleteFunc at listings, with Pin's predicate. -/
import Derived.Test.YtbcppmcjbcnlbaaDoorSnapH
namespace Go.Proofs.YtbcppmcjbcnlbaaDoor
open Go.RowKit Go.Shelf
attribute [local go_sem ↓] Go.wp_at_zero Go.wp_at_succ

def freshV (now : Int) (x : SV) : Bool := decide (now - x.used < 1000)
/-- What ticks may be. -/
def TickOk (t : Int) : Prop := -1000000000000 ≤ t ∧ t ≤ 1000000000000

set_option maxRecDepth 100000 in
theorem stale_any (x : SV) (hu : TickOk x.used) (now : Int) (hn : TickOk now) (pb : Nat) (b : Bool) (hb : freshV now x = b) (w : World) (hp : w.cell? ⟨pb, 0, none⟩ = some (.int .i64 now)) :
    Calls Tryd.prog 26 #[.agg #[.int .i64 x.cur, .slice x.ia x.il x.ic, .int .i64 x.used], .pointer (some ⟨pb, 0, none⟩)] w fun r w' => r = .returned (.bool (!b)) ∧ Keeps [] w w' := by
  obtain ⟨u, hux⟩ : ∃ u, x.used = u := ⟨_, rfl⟩
  unfold freshV at hb
  rw [hux] at hb hu ⊢
  obtain ⟨u1, u2⟩ := hu
  obtain ⟨n1, n2⟩ := hn
  have hp2 : (w.alloc (.cells #[.int .i64 x.cur, .slice x.ia x.il x.ic, .int .i64 u] 39)).cell? ⟨pb, 0, none⟩ = some (.int .i64 now) := by
    rw [World.cell?_alloc_lt w _ _ (World.block_lt_of_cell? w _ hp)]; exact hp
  have hbx := Blk.new w 39 #[.int .i64 x.cur, .slice x.ia x.il x.ic, .int .i64 u]
  have hu2 := hbx.cell 2
  clear hbx hp
  have hw : IntKind.i64.wrap (now - u) = now - u := IntWalk.i64_in _ (by omega)
  clear hux
  by_cases h : now - u < 1000
  · obtain rfl : b = true := by rw [← hb]; exact decide_eq_true h
    have h1 : ¬ (1000 : Int) ≤ now - u := by omega
    clear hb h
    go_enter Tryd.func26, Tryd.ntmps26
    go_wp2
    go_ret
    exact ⟨rfl, (Keeps.refl [] w).alloc _⟩
  · obtain rfl : b = false := by rw [← hb]; exact decide_eq_false h
    have h1 : (1000 : Int) ≤ now - u := by omega
    clear hb h
    go_enter Tryd.func26, Tryd.ntmps26
    go_wp2
    go_ret
    exact ⟨rfl, (Keeps.refl [] w).alloc _⟩

def IdxIs (now : Int) (V : List SV) (i : Int) : Prop := (i = -1 ∧ V.all (freshV now) = true) ∨ ∃ (k : Nat) (x : SV), i = k ∧ V[k]? = some x ∧ (V.take k).all (freshV now) = true ∧ freshV now x = false

set_option maxRecDepth 100000 in
set_option maxHeartbeats 1000000 in
theorem indexStale_any (a : Option Addr) (c : Nat) (V : List SV) (n : Nat) (hn : V.length = n) (hs : n ≤ 1000) (now : Int) (hnow : TickOk now) (hu : ∀ x ∈ V, TickOk x.used) (pb : Nat) (w : World) (hp : w.cell? ⟨pb, 0, none⟩ = some (.int .i64 now)) (hR : RowIn w a V) :
    Calls Tryd.prog 46 #[.slice a n c, .func (.func 26) #[] #[.pointer (some ⟨pb, 0, none⟩)]] w fun r w' => ∃ i : Int, r = .returned (.int .i64 i) ∧ IdxIs now V i ∧ Keeps [] w w' := by
  have HR := Lib.hid hR
  have HN := Lib.hid hn
  have HT := Lib.hid hnow
  have HU := Lib.hid hu
  have hpl := World.block_lt_of_cell? w _ hp
  have HP := Lib.hid hp
  have HPL := Lib.hid hpl
  clear hR hn hnow hu hp hpl
  go_enter Tryd.func46, Tryd.ntmps46
  go_wp2
  go_loopw [5, 8] (fun _ i wr => ∃ k : Nat, k ≤ n ∧ i = .int .i64 k ∧ Hid ((V.take k).all (freshV now) = true) ∧ Hid (Keeps [] w wr)) (fun _ i _ => n - (intOf i).toNat)
  case atStart => exact ⟨0, Nat.zero_le _, rfl, Lib.hid rfl, Lib.hid (Keeps.refl [] w)⟩
  case round =>
    obtain ⟨k, hk, rfl, HO, HK⟩ := hrel
    by_cases hlt : k < n
    · have hk1 : k < V.length := by rw [HN.out]; exact hlt
      obtain ⟨g, off, cs0, fz0, rfl, hgb, hat⟩ := HR.out (by rintro rfl; simp at hk1)
      have hg := (Array.getElem?_eq_some_iff.1 hgb).1
      clear hgb
      obtain ⟨x, hx⟩ : ∃ x, V[k] = x := ⟨_, rfl⟩
      have q1 := hat k hk1
      rw [hx] at q1
      obtain ⟨p0, p1, p2⟩ := q1
      rw [← HK.out.cell (by exact hg) (by simp)] at p0 p1 p2
      have i1 : (0 : Int) ≤ (k : Int) := by omega
      have i2 : (k : Int) < (n : Int) := by omega
      have HX : Hid (V[k]? = some x) := Lib.hid (by rw [List.getElem?_eq_getElem hk1, hx])
      have HXU : Hid (TickOk x.used) := Lib.hid (HU.out x (by rw [← hx]; exact List.getElem_mem _))
      have HPC : Hid (wr.cell? ⟨pb, 0, none⟩ = some (.int .i64 now)) := Lib.hid ((HK.out.cell HPL.out (by simp)).trans HP.out)
      clear hat hx hk1
      cases hr : freshV now x with
      | true =>
        have HO2 : Hid ((V.take (k + 1)).all (freshV now) = true) := Lib.hid (by rw [take_snoc HX.out, List.all_append, HO.out]; simp [hr])
        have HF := Lib.hid hr
        clear hr
        go_wp2_with (fail)
        refine (stale_any x HXU.out now HT.out pb true HF.out _ HPC.out).mono ?_
        rintro r w2 ⟨rfl, hk2⟩
        have HK2 := Lib.hid (HK.out.trans hk2)
        clear hk2 p0 p1 p2
        go_wp2
        go_roundw
        case rel => exact ⟨k + 1, by omega, by go_num, HO2, HK2⟩
        case measure => simp [intOf]; omega
      | false =>
        have HF := Lib.hid hr
        clear hr
        go_wp2_with (fail)
        refine (stale_any x HXU.out now HT.out pb false HF.out _ HPC.out).mono ?_
        rintro r w2 ⟨rfl, hk2⟩
        have HK2 := Lib.hid (HK.out.trans hk2)
        clear hk2 p0 p1 p2
        go_wp2
        go_ret
        exact ⟨_, rfl, .inr ⟨k, x, rfl, HX.out, HO.out, HF.out⟩, HK2.out⟩
    · obtain rfl : k = n := by omega
      have hall := HO.out
      rw [List.take_of_length_le (by rw [HN.out]; exact Nat.le_refl _)] at hall
      have HA := Lib.hid hall
      clear hall
      go_wp2
      go_ret
      exact ⟨_, rfl, .inl ⟨rfl, HA.out⟩, HK.out⟩

def zeroSnap : List Value := [.int .i64 0, .slice none 0 0, .int .i64 0]
def zeros3 : Nat → List Value
  | 0 => []
  | n + 1 => zeroSnap ++ zeros3 n
theorem zeros3_len : ∀ n, (zeros3 n).length = n * 3
  | 0 => rfl
  | n + 1 => by unfold zeros3; rw [List.length_append, zeros3_len n]; simp [zeroSnap]; omega
theorem zeros3_one : ∀ n, ∀ u ∈ zeros3 n, u.oneCell' = true
  | 0, _, h => by cases h
  | n + 1, u, h => by
    unfold zeros3 at h
    rcases List.mem_append.1 h with h | h
    · simp only [zeroSnap, List.mem_cons, List.not_mem_nil, or_false] at h
      rcases h with rfl | rfl | rfl <;> rfl
    · exact zeros3_one n u h
theorem zero_snap (W : World) : (zeroValue 39).run Tryd.prog W = .ok (.agg #[.int .i64 0, .slice none 0 0, .int .i64 0]) W := by kernel_rfl
theorem zeros3_eq (n : Nat) : (Builtin.zeroCells (Value.agg #[.int .i64 0, .slice none 0 0, .int .i64 0]).cells n).toList = zeros3 n := by
  have hc : (Value.agg #[.int .i64 0, .slice none 0 0, .int .i64 0]).cells = #[.int .i64 0, .slice none 0 0, .int .i64 0] := rfl
  have hz : ∀ n j, j < n * 3 → (zeros3 n)[j]? = some (#[Value.int .i64 0, .slice none 0 0, .int .i64 0][j % 3]!) := by
    intro n
    induction n with
    | zero => intro j hj; omega
    | succ n ih =>
      intro j hj
      unfold zeros3
      rcases Nat.lt_or_ge j 3 with h | h
      · have : j = 0 ∨ j = 1 ∨ j = 2 := by omega
        rcases this with rfl | rfl | rfl <;> rfl
      · rw [List.getElem?_append_right (by simp [zeroSnap]; omega)]
        have : zeroSnap.length = 3 := rfl
        rw [this, ih (j - 3) (by omega), show (j - 3) % 3 = j % 3 by omega]
  rw [hc]
  apply List.ext_getElem?
  intro j
  rcases Nat.lt_or_ge j (n * 3) with h | h
  · rw [hz n j h]
    simp [Builtin.zeroCells, h]
  · rw [List.getElem?_eq_none (l := zeros3 n) (by rw [zeros3_len]; exact h), List.getElem?_eq_none (by simp [Builtin.zeroCells]; omega)]
theorem run_clear_snaps (W : World) (ty : TypeId) (g o n c : Nat) (hn : 0 < n) (hc : ∀ j, j < n * 3 → (W.cell? ⟨g, o + j, none⟩).isSome = true) (hf : ∀ j, j < n * 3 → W.frozen? ⟨g, o + j, none⟩ = false) :
    (Builtin.clear_ #[22] ty #[.slice (some ⟨g, o, none⟩) n c]).run Tryd.prog W = .ok (.tuple #[]) (W.setCells g o (zeros3 n)) := by
  have hst := run_storeCells_cells (P := Tryd.prog) g o (zeros3 n) 0 W (by simpa [zeros3_len] using hc) (by simpa [zeros3_len] using hf) (zeros3_one n)
  simp only [Nat.add_zero] at hst
  have hzz := zeros3_eq n
  obtain ⟨m, rfl⟩ : ∃ m, n = m + 1 := ⟨n - 1, by omega⟩
  simp only [Builtin.clear_, List.getElem?_toArray, List.getElem?_cons_zero, Sem.run_bind, run_underlying Tryd.underlying22, Result.andThen_ok, zero_snap, hzz, hst, Sem.run_pure]
theorem snap_size (W : World) : (sizeOf (Tryd.prog.elem 22)).run Tryd.prog W = .ok 3 W := by kernel_rfl
theorem snap_elem : Tryd.prog.underlying 22 = some (.slice (Tryd.prog.elem 22)) := by kernel_rfl
theorem snap_slice_l (W : World) (g off n cap l : Nat) (h1 : l ≤ n) (h2 : l < cap) :
    (Instr.slice 22 (.slice (some ⟨g, off, none⟩) n cap) (some (.int .i64 (l : Int))) none none).run Tryd.prog W = .ok (.slice (some ⟨g, off + l * 3, none⟩) (n - l) (cap - l)) W := by
  have h := run_slice_l (P := Tryd.prog) W 22 (some ⟨g, off, none⟩) n cap snap_elem .i64 l (by omega) (by omega)
  rw [h, snap_size]
  simp [sliced, show ¬ cap = l by omega, addr_add, Result.andThen]
theorem snap_slice_h (W : World) (g off n cap l : Nat) (h2 : l ≤ cap) :
    (Instr.slice 22 (.slice (some ⟨g, off, none⟩) n cap) none (some (.int .i64 (l : Int))) none).run Tryd.prog W = .ok (.slice (some ⟨g, off, none⟩) l cap) W := by
  have h := run_slice_h (P := Tryd.prog) W 22 (some ⟨g, off, none⟩) n cap snap_elem .i64 l (by omega) (by omega)
  rw [h, snap_size]
  simp [sliced, addr_add, Result.andThen]
end Go.Proofs.YtbcppmcjbcnlbaaDoor
