/- The walk of Cut. -/
import Derived.Test.YtfedhhndkeakhaaDoorWireL
import Derived.Deep.AppendLies
namespace Go.Proofs.YtfedhhndkeakhaaDoor
open Go.RowKit
attribute [local go_sem ↓] Go.wp_at_zero Go.wp_at_succ

/-- A frame's data are cut at five hundred and thirteen bytes. -/
def cutFr (x : Fr) : Fr := { x with data := x.data.extract 0 (min x.data.size 513) }
def cutFrs (xs : List Fr) : List Fr := (xs.take 10).map cutFr

theorem cutfrs_nil (w : World) (c : Nat) (a : Option Addr) :
    Calls Tryd.prog 11 #[.slice a 0 c] w fun e w' => e = .returned (.slice none 0 0) ∧ w = w' := by
  go_enter Tryd.func11, Tryd.ntmps11
  go_wp2
  go_loop [3, 4] (fun v i => v = .slice none 0 0 ∧ i = .int .i64 0) (fun _ _ => 0)
  case atStart => exact ⟨rfl, rfl⟩
  case round =>
    obtain ⟨rfl, rfl⟩ := hrel
    go_wp2
    go_ret
    exact ⟨rfl, rfl⟩

set_option maxRecDepth 100000 in
set_option maxHeartbeats 2000000 in
theorem cutfrs_any (w : World) (g off c : Nat) (xs : List Fr) (hx : FrsAt w g off xs) (hg : g < w.heap.size) (hlen : xs.length ≤ 9223372036854775807) (hs : ∀ x ∈ xs, x.data.size ≤ maxLen) :
    Calls Tryd.prog 11 #[.slice (some ⟨g, off, none⟩) xs.length c] w fun e w' => ∃ v, e = .returned v ∧ w'.ownsRow w.heap.size 23 3 v (cutFrs xs).length ((cutFrs xs).flatMap Fr.cl) ∧ Below w.heap.size w w' := by
  obtain ⟨i0, hi, hz0, hz1, hz2⟩ := info_parts frame_info
  have HX := Lib.hid hx
  have HS := Lib.hid hs
  clear hx hs
  go_enter Tryd.func11, Tryd.ntmps11
  go_wp2
  go_loopw [3, 4] (fun v i wr => ∃ k : Nat, k ≤ min xs.length 10 ∧ i = .int .i64 k ∧ wr.ownsRow w.heap.size 23 3 v k (((xs.take k).map cutFr).flatMap Fr.cl) ∧ Below w.heap.size w wr) (fun _ i _ => 10 - (intOf i).toNat)
  case atStart => exact ⟨0, Nat.zero_le _, rfl, World.ownsRow_nil _ _ _ _, Below.refl _ _⟩
  case round =>
    obtain ⟨k, hk, rfl, hrow, hB⟩ := hrel
    by_cases hlt : k < xs.length ∧ k < 10
    · obtain ⟨h1, h2⟩ := hlt
      obtain ⟨x, hx⟩ : ∃ x, xs[k] = x := ⟨_, rfl⟩
      have hc := HX.out k h1
      rw [hx] at hc
      obtain ⟨hc0, hc1, hc2⟩ := hc
      have hsz : x.data.size ≤ maxLen := HS.out x (by rw [← hx]; exact List.getElem_mem _)
      unfold maxLen at hsz
      rw [← hB.cell (by exact hg)] at hc0 hc1 hc2
      have i1 : (0 : Int) ≤ (k : Int) := by omega
      have i2 : (k : Int) < (xs.length : Int) := by omega
      have i3 : (k : Int) < 10 := by omega
      have HR := Lib.hid hrow
      have HB := Lib.hid hB
      have hgw : g < wr.heap.size := by have := hB.size; omega
      have hwz : w.heap.size ≤ wr.heap.size := hB.size
      have hn0 := fun (o : Nat) (u : Value) (h : wr.cell? ⟨g, o, none⟩ = some u) => World.new_ne wr ⟨g, o, none⟩ h
      have n0 := hn0 _ _ hc0
      have n1 := hn0 _ _ hc1
      have n2 := hn0 _ _ hc2
      have hrb : ∀ j, u3.ownBlock = some j → w.heap.size ≤ j := fun j ej => by
        rcases hrow.2 with ⟨rfl, _⟩ | ⟨g', cap, cur, rfl, hb, _, _⟩
        · simp [Value.ownBlock] at ej
        · obtain rfl : g' = j := by simpa [Value.ownBlock] using ej
          exact hb
      have hgn : some g ≠ u3.ownBlock := fun e => by have := hrb g e.symm; omega
      have HX0 := Lib.hid hx
      have HRB := Lib.hid hrb
      have HGN := Lib.hid hgn
      clear hx hrow hB hn0 hrb hgn
      have hsl : ∀ (j : Nat) (W : World), j ≤ x.data.size → (Instr.slice 9 (.string x.data) none (some (.int .i64 (j : Int))) none).run Tryd.prog W = .ok (.string (x.data.extract 0 j)) W := fun j W hj => by
        have := run_slice_string_h (P := Tryd.prog) (w := W) (t := 9) (s := x.data) Tryd.underlying9 .i64 (j : Int) (by omega) (by omega)
        simpa using this
      have hz3 : (cutFr x).data = x.data.extract 0 (min x.data.size 513) := rfl
      have HZ3 := Lib.hid hz3
      clear hz3
      rcases Nat.lt_or_ge 513 x.data.size with hz | hz
      have hsl1 : ∀ W : World, (Instr.slice 9 (.string x.data) none (some (.int .i64 (513 : Int))) none).run Tryd.prog W = .ok (.string (x.data.extract 0 513)) W := fun W => hsl 513 W (by omega)
      have hzi : (513 : Int) < (x.data.size : Int) := by omega
      rotate_left
      have hsl1 := fun W => hsl x.data.size W (by omega)
      have hzi : ¬ (513 : Int) < (x.data.size : Int) := by omega
      rotate_right
      all_goals
        have hz2 : min x.data.size 513 = 513 ∨ min x.data.size 513 = x.data.size := by omega
        have HZ2 := Lib.hid hz2
        clear hsl hz2
        go_wp2_with (fail)
        try have hif : (if (513 : Int) < (x.data.size : Int) then (513 : Int) else (x.data.size : Int)) = (x.data.size : Int) := by rw [if_neg (by omega)]
        go_region_held3 (fun w' => w'.cell? ⟨g, off + k * 3, none⟩ = some (.int .i64 x.kind) ∧ w'.cell? ⟨g, off + k * 3 + 1, none⟩ = some (.int .i64 x.stream) ∧ w'.cell? ⟨g, off + k * 3 + 2, none⟩ = some (.string x.data))
          (first | go_keep | (go_split_ands; refine ⟨?_, ?_, ?_⟩ <;> (rw [hgrow.cell_far _ (by simp; omega) HGN.out]; assumption)))
          ((refine step_append_lies _ (by rfl) _ _ _ (by rfl) w.heap.size 23 i0 _ 3 32 Tryd.underlying25 hi hz0 hz1 hz2 rfl (by omega) u3 k _ (by rfl) ((HR.out.alloc _).drew) ⟨wr.heap.size, 0, none⟩ 1 1 _ (by rfl) (by rfl) (World.news_of_block (heap_alloc_new wr _)) (by simp [Value.oneCell']) (by omega) (by unfold maxLen; omega) (by omega) (by simp; omega) (wr.heap.size + 1) (by simp) ?_; intro g2 cap2 w1 hown1 hgrow hat hlt2))
        have hop : Fr.cl (cutFr x) = [Value.int IntKind.i64 x.kind, Value.int IntKind.i64 x.stream, Value.string (x.data.extract 0 (min x.data.size 513))] := rfl
        have hsn : (xs.take (k + 1)).map cutFr = (xs.take k).map cutFr ++ [cutFr x] := by
          rw [List.take_succ_eq_append_getElem h1, List.map_append, HX0.out]; rfl
        have hr2 : w1.ownsRow w.heap.size 23 3 (.slice (some ⟨g2, 0, none⟩) (k + 1) cap2) (k + 1) (((xs.take (k + 1)).map cutFr).flatMap Fr.cl) := by
          rw [hsn, List.flatMap_append]
          have e : [cutFr x].flatMap Fr.cl = Fr.cl (cutFr x) := by simp
          rw [e, hop]
          first
            | (rw [Nat.min_eq_right (by omega)]; exact hown1)
            | (rw [Nat.min_eq_left (by omega), show x.data.extract 0 x.data.size = x.data by simp]; exact hown1)
        have hB2 : Below w.heap.size w w1 := HB.out.trans (((((Below.refl w.heap.size wr).alloc (by omega) _).drew).grown hgrow (by simp; omega) (fun j ej => HRB.out j ej)))
        have HR2 := Lib.hid hr2
        have HB2 := Lib.hid hB2
        clear hop hsn hr2 hB2 hown1 hgrow
        go_wp2
        go_roundw
        case rel => exact ⟨k + 1, by omega, by go_num, HR2.out, HB2.out⟩
        case measure => simp [intOf]; omega
    · have hk2 : k = min xs.length 10 := by omega
      have hcl : (cutFrs xs).length = k := by simp [cutFrs]; omega
      have hce : cutFrs xs = (xs.take k).map cutFr := by
        unfold cutFrs; rw [hk2, Nat.min_comm, ← List.take_eq_take_min]
      have hr2 : wr.ownsRow w.heap.size 23 3 u3 (cutFrs xs).length ((cutFrs xs).flatMap Fr.cl) := by rw [hcl, hce]; exact hrow
      have HR2 := Lib.hid hr2
      have HB2 := Lib.hid hB
      clear hrow hr2 hB hcl hce hk2
      rcases Nat.lt_or_ge k xs.length with h1 | h1
      · have h2 : (10 : Int) ≤ (k : Int) := by omega
        clear hlt
        go_wp2
        go_ret
        exact ⟨_, rfl, HR2.out, HB2.out⟩
      · have h2 : (xs.length : Int) ≤ (k : Int) := by omega
        clear hlt
        go_wp2
        go_ret
        exact ⟨_, rfl, HR2.out, HB2.out⟩
end Go.Proofs.YtfedhhndkeakhaaDoor
