/- The walks of the statements' shown; of Cut. -/
import Derived.Test.YthngchdfbcpciaaFifoI
import Derived.Deep.AppendLies
namespace Go.Proofs.Ythngchdfbcpciaa
open Go.RowKit
attribute [local go_sem ↓] Go.wp_at_zero Go.wp_at_succ

set_option maxHeartbeats 1000000 in
theorem shown_any (w : World) :
    Calls Try.prog 8 #[] w fun e w' => e = .returned (.bool true) ∧ Keeps [] w w' := by
  have hs1 : (⟨#[97, 98, 99]⟩ : ByteArray).size ≤ 1000000 := by decide
  have hs2 : (⟨#[100, 101]⟩ : ByteArray).size ≤ 1000000 := by decide
  go_enter Try.func8, Try.ntmps8
  go_wp2_with (fail)
  refine (new_ok 4 _ (by omega) (by omega)).mono ?_
  rintro e w1 ⟨rfl, hf1, hk1, -⟩
  have HF1 := Lib.hid hf1
  have HK1 := Lib.hid hk1
  clear hf1 hk1
  go_wp2_with (fail)
  refine (push_any _ _ 4 [] ⟨#[97, 98, 99]⟩ _ HF1.out hs1).mono ?_
  rintro e w2 ⟨rfl, hf2, hk2⟩
  have HF2 : Hid (Fi w2 (w.heap.size + 1) w.heap.size 4 [97, 98, 99]) := hf2
  have HK2 := Lib.hid (HK1.out.trans' hk2 (by simp))
  clear hf2 hk2
  go_wp2_with (fail)
  refine (push_any _ _ 4 [97, 98, 99] ⟨#[100, 101]⟩ _ HF2.out hs2).mono ?_
  rintro e w3 ⟨rfl, hf3, hk3⟩
  have HF3 : Hid (Fi w3 (w.heap.size + 1) w.heap.size 4 [97, 98, 99, 100]) := hf3
  have HK3 := Lib.hid (HK2.out.trans' hk3 (by simp))
  clear hf3 hk3
  go_wp2_with (fail)
  refine (pop_eq _ _ 4 [97, 98, 99, 100] 2 ⟨#[97, 98]⟩ rfl _ HF3.out).mono ?_
  rintro e w4 ⟨rfl, hf4, hk4⟩
  have HF4 : Hid (Fi w4 (w.heap.size + 1) w.heap.size 4 [99, 100]) := hf4
  have HK4 := Lib.hid (HK3.out.trans' hk4 (by simp))
  clear hf4 hk4
  go_wp2_with (fail)
  refine (peek_eq _ _ 4 [99, 100] 9 ⟨#[99, 100]⟩ rfl _ HF4.out).mono ?_
  rintro e w5 ⟨rfl, hk5⟩
  have HF5 := Lib.hid (HF4.out.keeps hk5 (by simp) (by simp))
  have HK5 := Lib.hid (HK4.out.trans' hk5 (by simp))
  clear hk5
  go_wp2_with (first | (go_at_call 12; refine (len_any _ _ 4 [99, 100] _ HF5.out).mono ?_; rintro e w' ⟨rfl, rfl⟩) | (go_at_call 17; refine (room_any _ _ 4 [99, 100] _ HF5.out).mono ?_; rintro e w' ⟨rfl, n, rfl⟩))
  go_ret
  exact ⟨rfl, HK5.out.drewN _⟩

/-- From cell off of block g on lie these calls. -/
def OpsAt (w : World) (g off : Nat) (xs : List Op1) : Prop := ∀ i (h : i < xs.length),
  w.cell? ⟨g, off + i * 3, none⟩ = some (.int .i64 xs[i].kind) ∧ w.cell? ⟨g, off + i * 3 + 1, none⟩ = some (.int .i64 xs[i].n) ∧ w.cell? ⟨g, off + i * 3 + 2, none⟩ = some (.string xs[i].s)

/-- A call's text is cut at one hundred bytes. -/
def cutOp (x : Op1) : Op1 := { x with s := x.s.extract 0 (min x.s.size 100) }
def cutOps (xs : List Op1) : List Op1 := (xs.take 40).map cutOp
def opCells (x : Op1) : List Value := [.int .i64 x.kind, .int .i64 x.n, .string x.s]

theorem tOp_info : (Try.prog.info? 38).map (fun i => (i.zero, i.size, i.bytes)) = some (some (.agg #[.int .i64 0, .int .i64 0, .string ⟨#[]⟩]), 3, 32) := by kernel_rfl

theorem cutops_nil (w : World) (c : Nat) (a : Option Addr) :
    Calls Try.prog 9 #[.slice a 0 c] w fun e w' => e = .returned (.slice none 0 0) ∧ w = w' := by
  go_enter Try.func9, Try.ntmps9
  go_wp2
  go_loop [3, 4] (fun v i => v = .slice none 0 0 ∧ i = .int .i64 0) (fun _ _ => 0)
  case atStart => exact ⟨rfl, rfl⟩
  case round =>
    obtain ⟨rfl, rfl⟩ := hrel
    go_wp2
    go_ret
    exact ⟨rfl, rfl⟩

set_option maxHeartbeats 2000000 in
theorem cutops_any (w : World) (g off c : Nat) (xs : List Op1) (hx : OpsAt w g off xs) (hg : g < w.heap.size) (hlen : xs.length ≤ 9223372036854775807) (hs : ∀ x ∈ xs, x.s.size ≤ maxLen) :
    Calls Try.prog 9 #[.slice (some ⟨g, off, none⟩) xs.length c] w fun e w' => ∃ v, e = .returned v ∧ w'.ownsRow w.heap.size 38 3 v (cutOps xs).length ((cutOps xs).flatMap opCells) ∧ Below w.heap.size w w' := by
  obtain ⟨i0, hi, hz0, hz1, hz2⟩ := info_parts tOp_info
  have HX := Lib.hid hx
  have HS := Lib.hid hs
  clear hx hs
  go_enter Try.func9, Try.ntmps9
  go_wp2
  go_loopw [3, 4] (fun v i wr => ∃ k : Nat, k ≤ min xs.length 40 ∧ i = .int .i64 k ∧ wr.ownsRow w.heap.size 38 3 v k (((xs.take k).map cutOp).flatMap opCells) ∧ Below w.heap.size w wr) (fun _ i _ => 40 - (intOf i).toNat)
  case atStart => exact ⟨0, Nat.zero_le _, rfl, World.ownsRow_nil _ _ _ _, Below.refl _ _⟩
  case round =>
    obtain ⟨k, hk, rfl, hrow, hB⟩ := hrel
    by_cases hlt : k < xs.length ∧ k < 40
    · obtain ⟨h1, h2⟩ := hlt
      obtain ⟨x, hx⟩ : ∃ x, xs[k] = x := ⟨_, rfl⟩
      have hc := HX.out k h1
      rw [hx] at hc
      obtain ⟨hc0, hc1, hc2⟩ := hc
      have hsz : x.s.size ≤ maxLen := HS.out x (by rw [← hx]; exact List.getElem_mem _)
      unfold maxLen at hsz
      rw [← hB.cell (by exact hg)] at hc0 hc1 hc2
      have i1 : (0 : Int) ≤ (k : Int) := by omega
      have i2 : (k : Int) < (xs.length : Int) := by omega
      have i3 : (k : Int) < 40 := by omega
      have HR := Lib.hid hrow
      have HB := Lib.hid hB
      have hgw : g < wr.heap.size := by have := hB.size; omega
      have hwz : w.heap.size ≤ wr.heap.size := hB.size
      have hn0 := fun (o : Nat) (u : Value) (h : wr.cell? ⟨g, o, none⟩ = some u) => World.new_ne wr ⟨g, o, none⟩ h
      have n0 := hn0 _ _ hc0
      have n1 := hn0 _ _ hc1
      have n2 := hn0 _ _ hc2
      have hrb : ∀ j, u3.ownBlock = some j → w.heap.size ≤ j := fun j ej => by
        rcases hrow.2 with ⟨rfl, _⟩ | ⟨g', cap, cur, rfl, hb, _, _⟩
        · simp [Value.ownBlock] at ej
        · obtain rfl : g' = j := by simpa [Value.ownBlock] using ej
          exact hb
      have hgn : some g ≠ u3.ownBlock := fun e => by have := hrb g e.symm; omega
      have HX0 := Lib.hid hx
      have HRB := Lib.hid hrb
      have HGN := Lib.hid hgn
      clear hx hrow hB hn0 hrb hgn
      have hsl : ∀ (j : Nat) (W : World), j ≤ x.s.size → (Instr.slice 9 (.string x.s) none (some (.int .i64 (j : Int))) none).run Try.prog W = .ok (.string (x.s.extract 0 j)) W := fun j W hj => by
        have := run_slice_string_h (P := Try.prog) (w := W) (t := 9) (s := x.s) Try.underlying9 .i64 (j : Int) (by omega) (by omega)
        simpa using this
      have hz3 : (cutOp x).s = x.s.extract 0 (min x.s.size 100) := rfl
      have HZ3 := Lib.hid hz3
      clear hz3
      rcases Nat.lt_or_ge 100 x.s.size with hz | hz
      have hsl1 : ∀ W : World, (Instr.slice 9 (.string x.s) none (some (.int .i64 (100 : Int))) none).run Try.prog W = .ok (.string (x.s.extract 0 100)) W := fun W => hsl 100 W (by omega)
      have hzi : (100 : Int) < (x.s.size : Int) := by omega
      rotate_left
      have hsl1 := fun W => hsl x.s.size W (by omega)
      have hzi : ¬ (100 : Int) < (x.s.size : Int) := by omega
      rotate_right
      all_goals
        have hz2 : min x.s.size 100 = 100 ∨ min x.s.size 100 = x.s.size := by omega
        have HZ2 := Lib.hid hz2
        clear hsl hz2
        go_wp2_with (fail)
        try have hif : (if (100 : Int) < (x.s.size : Int) then (100 : Int) else (x.s.size : Int)) = (x.s.size : Int) := by rw [if_neg (by omega)]
        go_region_held3 (fun w' => w'.cell? ⟨g, off + k * 3, none⟩ = some (.int .i64 x.kind) ∧ w'.cell? ⟨g, off + k * 3 + 1, none⟩ = some (.int .i64 x.n) ∧ w'.cell? ⟨g, off + k * 3 + 2, none⟩ = some (.string x.s))
          (first | go_keep | (go_split_ands; refine ⟨?_, ?_, ?_⟩ <;> (rw [hgrow.cell_far _ (by simp; omega) HGN.out]; assumption)))
          ((refine step_append_lies _ (by rfl) _ _ _ (by rfl) w.heap.size 38 i0 _ 3 32 Try.underlying22 hi hz0 hz1 hz2 rfl (by omega) u3 k _ (by rfl) ((HR.out.alloc _).drew) ⟨wr.heap.size, 0, none⟩ 1 1 _ (by rfl) (by rfl) (World.news_of_block (heap_alloc_new wr _)) (by simp [Value.oneCell']) (by omega) (by unfold maxLen; omega) (by omega) (by simp; omega) (wr.heap.size + 1) (by simp) ?_; intro g2 cap2 w1 hown1 hgrow hat hlt2))
        have hop : opCells (cutOp x) = [Value.int IntKind.i64 x.kind, Value.int IntKind.i64 x.n, Value.string (x.s.extract 0 (min x.s.size 100))] := rfl
        have hsn : (xs.take (k + 1)).map cutOp = (xs.take k).map cutOp ++ [cutOp x] := by
          rw [List.take_succ_eq_append_getElem h1, List.map_append, HX0.out]; rfl
        have hr2 : w1.ownsRow w.heap.size 38 3 (.slice (some ⟨g2, 0, none⟩) (k + 1) cap2) (k + 1) (((xs.take (k + 1)).map cutOp).flatMap opCells) := by
          rw [hsn, List.flatMap_append]
          have e : [cutOp x].flatMap opCells = opCells (cutOp x) := by simp
          rw [e, hop]
          first
            | (rw [Nat.min_eq_right (by omega)]; exact hown1)
            | (rw [Nat.min_eq_left (by omega), show x.s.extract 0 x.s.size = x.s by simp]; exact hown1)
        have hB2 : Below w.heap.size w w1 := HB.out.trans (((((Below.refl w.heap.size wr).alloc (by omega) _).drew).grown hgrow (by simp; omega) (fun j ej => HRB.out j ej)))
        have HR2 := Lib.hid hr2
        have HB2 := Lib.hid hB2
        clear hop hsn hr2 hB2 hown1 hgrow
        go_wp2
        go_roundw
        case rel => exact ⟨k + 1, by omega, by go_num, HR2.out, HB2.out⟩
        case measure => simp [intOf]; omega
    · have hk2 : k = min xs.length 40 := by omega
      have hcl : (cutOps xs).length = k := by simp [cutOps]; omega
      have hce : cutOps xs = (xs.take k).map cutOp := by
        unfold cutOps; rw [hk2, Nat.min_comm, ← List.take_eq_take_min]
      have hr2 : wr.ownsRow w.heap.size 38 3 u3 (cutOps xs).length ((cutOps xs).flatMap opCells) := by rw [hcl, hce]; exact hrow
      have HR2 := Lib.hid hr2
      have HB2 := Lib.hid hB
      clear hrow hr2 hB hcl hce hk2
      rcases Nat.lt_or_ge k xs.length with h1 | h1
      · have h2 : (40 : Int) ≤ (k : Int) := by omega
        clear hlt
        go_wp2
        go_ret
        exact ⟨_, rfl, HR2.out, HB2.out⟩
      · have h2 : (xs.length : Int) ≤ (k : Int) := by omega
        clear hlt
        go_wp2
        go_ret
        exact ⟨_, rfl, HR2.out, HB2.out⟩
end Go.Proofs.Ythngchdfbcpciaa
