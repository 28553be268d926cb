/- A law's list of calls (17): in memory, cut, and as an argument. Printed by gen_ops.py. -/
import Derived.Test.YtollcbacpoohlaaGreatDoorLaw
import Derived.Test.YtollcbacpoohlaaGreatDoorRows
import Derived.Deep.AppendLies
import Derived.Deep.RegionHeld3
import Derived.Deep.DrawnRows
import Derived.Deep.Slices
import Derived.Deep.Fields
namespace Go.Proofs.YtollcbacpoohlaaGreatDoor
open Go.RowKit Go.WideShapes Go.ChangeShapes Go.Deep
attribute [local go_sem ↓] Go.wp_at_zero Go.wp_at_succ

/-- A call. -/
structure Op1 where
  kind : Int
  side : Int
  n : Int
  s : ByteArray

def Op1.val (x : Op1) : Value := .agg #[.int .i64 x.kind, .int .i64 x.side, .int .i64 x.n, .string x.s]

/-- From cell off of block g on lie these calls. -/
def OpsAt (w : World) (g off : Nat) (xs : List Op1) : Prop := ∀ i (h : i < xs.length),
  w.cell? ⟨g, off + i * 4, none⟩ = some (.int .i64 xs[i].kind) ∧ w.cell? ⟨g, off + i * 4 + 1, none⟩ = some (.int .i64 xs[i].side) ∧ w.cell? ⟨g, off + i * 4 + 2, none⟩ = some (.int .i64 xs[i].n) ∧ w.cell? ⟨g, off + i * 4 + 3, none⟩ = some (.string xs[i].s)

def cutOp (x : Op1) : Op1 := { x with s := x.s.extract 0 (min x.s.size 50) }
def cutOps (xs : List Op1) : List Op1 := (xs.take 50).map cutOp
def opCells (x : Op1) : List Value := [.int .i64 x.kind, .int .i64 x.side, .int .i64 x.n, .string x.s]

theorem tOp_info : (Tryz.prog.info? 38).map (fun i => (i.zero, i.size, i.bytes)) = some (some (.agg #[.int .i64 0, .int .i64 0, .int .i64 0, .string ⟨#[]⟩]), 4, 40) := by kernel_rfl

theorem heap_two (w : World) (ob : Obj) (cs : Array Value) (t : TypeId) : ((w.alloc ob).alloc (.cells cs t)).heap[w.heap.size + 1]? = some (.cells cs t (0, 0)) := by
  have := heap_alloc_new (w.alloc ob) (.cells cs t)
  rwa [World.size_alloc] at this

set_option maxRecDepth 100000 in
theorem cutops_nil (w : World) (c : Nat) (a : Option Addr) :
    Calls Tryz.prog 5 #[.slice a 0 c] w fun e w' => e = .returned (.slice none 0 0) ∧ w = w' := by
  go_enter Tryz.func5, Tryz.ntmps5
  go_wp2
  go_loop [3, 4] (fun v i => v = .slice none 0 0 ∧ i = .int .i64 0) (fun _ _ => 0)
  case atStart => exact ⟨rfl, rfl⟩
  case round =>
    obtain ⟨rfl, rfl⟩ := hrel
    go_wp2
    go_ret
    exact ⟨rfl, rfl⟩

set_option maxRecDepth 100000 in
set_option maxHeartbeats 2000000 in
theorem cutops_any (w : World) (g off c : Nat) (xs : List Op1) (hx : OpsAt w g off xs) (hg : g < w.heap.size) (hlen : xs.length ≤ 9223372036854775807) (hs : ∀ x ∈ xs, x.s.size ≤ maxLen) :
    Calls Tryz.prog 5 #[.slice (some ⟨g, off, none⟩) xs.length c] w fun e w' => ∃ v, e = .returned v ∧ w'.ownsRow w.heap.size 38 4 v (cutOps xs).length ((cutOps xs).flatMap opCells) ∧ Below w.heap.size w w' := by
  obtain ⟨i0, hi, hz0, hz1, hz2⟩ := info_parts tOp_info
  have HX := Lib.hid hx
  have HS := Lib.hid hs
  clear hx hs
  go_enter Tryz.func5, Tryz.ntmps5
  go_wp2
  go_loopw [3, 4] (fun v i wr => ∃ k : Nat, k ≤ min xs.length 50 ∧ i = .int .i64 k ∧ wr.ownsRow w.heap.size 38 4 v k (((xs.take k).map cutOp).flatMap opCells) ∧ Below w.heap.size w wr) (fun _ i _ => 50 - (intOf i).toNat)
  case atStart => exact ⟨0, Nat.zero_le _, rfl, World.ownsRow_nil _ _ _ _, Below.refl _ _⟩
  case round =>
    obtain ⟨k, hk, rfl, hrow, hB⟩ := hrel
    by_cases hlt : k < xs.length ∧ k < 50
    · obtain ⟨h1, h2⟩ := hlt
      obtain ⟨x, hx⟩ : ∃ x, xs[k] = x := ⟨_, rfl⟩
      have hc := HX.out k h1
      rw [hx] at hc
      obtain ⟨hc0, hc1, hc2, hc3⟩ := hc
      have hsz : x.s.size ≤ maxLen := HS.out x (by rw [← hx]; exact List.getElem_mem _)
      unfold maxLen at hsz
      rw [← hB.cell (by exact hg)] at hc0 hc1 hc2 hc3
      have i1 : (0 : Int) ≤ (k : Int) := by omega
      have i2 : (k : Int) < (xs.length : Int) := by omega
      have i3 : (k : Int) < 50 := by omega
      have HR := Lib.hid hrow
      have HB := Lib.hid hB
      have hgw : g < wr.heap.size := by have := hB.size; omega
      have hwz : w.heap.size ≤ wr.heap.size := hB.size
      have hn0 := fun (o : Nat) (u : Value) (h : wr.cell? ⟨g, o, none⟩ = some u) => World.new_ne wr ⟨g, o, none⟩ h
      have n0 := hn0 _ _ hc0
      have n1 := hn0 _ _ hc1
      have n2 := hn0 _ _ hc2
      have n3 := hn0 _ _ hc3
      have hrb : ∀ j, u3.ownBlock = some j → w.heap.size ≤ j := fun j ej => by
        rcases hrow.2 with ⟨rfl, _⟩ | ⟨g', cap, cur, rfl, hb, _, _⟩
        · simp [Value.ownBlock] at ej
        · obtain rfl : g' = j := by simpa [Value.ownBlock] using ej
          exact hb
      have hgn : some g ≠ u3.ownBlock := fun e => by have := hrb g e.symm; omega
      have HX0 := Lib.hid hx
      have HRB := Lib.hid hrb
      have HGN := Lib.hid hgn
      clear hx hrow hB hn0 hrb hgn
      have hsl : ∀ (j : Nat) (W : World), j ≤ x.s.size → (Instr.slice 9 (.string x.s) none (some (.int .i64 (j : Int))) none).run Tryz.prog W = .ok (.string (x.s.extract 0 j)) W := fun j W hj => by
        have := run_slice_string_h (P := Tryz.prog) (w := W) (t := 9) (s := x.s) Tryz.underlying9 .i64 (j : Int) (by omega) (by omega)
        simpa using this
      have hz3 : (cutOp x).s = x.s.extract 0 (min x.s.size 50) := rfl
      have HZ3 := Lib.hid hz3
      clear hz3
      rcases Nat.lt_or_ge 50 x.s.size with hz | hz
      have hsl1 : ∀ W : World, (Instr.slice 9 (.string x.s) none (some (.int .i64 (50 : Int))) none).run Tryz.prog W = .ok (.string (x.s.extract 0 50)) W := fun W => hsl 50 W (by omega)
      have hzi : (50 : Int) < (x.s.size : Int) := by omega
      rotate_left
      have hsl1 := fun W => hsl x.s.size W (by omega)
      have hzi : ¬ (50 : Int) < (x.s.size : Int) := by omega
      rotate_right
      all_goals
        have hz2 : min x.s.size 50 = 50 ∨ min x.s.size 50 = x.s.size := by omega
        have HZ2 := Lib.hid hz2
        clear hsl hz2
        go_wp2_with (at_builtin; refine wpList_append_lies _ rfl _ _ _ (by rfl) w.heap.size 38 i0 _ 4 40 Tryz.underlying22 hi hz0 hz1 hz2 rfl (by omega) u3 k _ (by rfl) ((HR.out.alloc _).alloc _) ⟨wr.heap.size + 1, 0, none⟩ 1 1 _ (by rfl) (by rfl) (World.news_of_block (heap_two wr _ _ _)) (by simp [Value.oneCell']) (by omega) (by unfold maxLen; omega) (by omega) (by simp; omega) (wr.heap.size + 1 + 1) (by simp) ?_; intro g2 cap2 w1 hown1 hgrow hat hlt2)
        have hop : opCells (cutOp x) = [Value.int IntKind.i64 x.kind, Value.int IntKind.i64 x.side, Value.int IntKind.i64 x.n, Value.string (x.s.extract 0 (min x.s.size 50))] := rfl
        have hsn : (xs.take (k + 1)).map cutOp = (xs.take k).map cutOp ++ [cutOp x] := by
          rw [List.take_succ_eq_append_getElem h1, List.map_append, HX0.out]; rfl
        have hr2 : w1.ownsRow w.heap.size 38 4 (.slice (some ⟨g2, 0, none⟩) (k + 1) cap2) (k + 1) (((xs.take (k + 1)).map cutOp).flatMap opCells) := by
          rw [hsn, List.flatMap_append]
          have e : [cutOp x].flatMap opCells = opCells (cutOp x) := by simp
          rw [e, hop]
          first
            | (rw [Nat.min_eq_right (by omega)]; exact hown1)
            | (rw [Nat.min_eq_left (by omega), show x.s.extract 0 x.s.size = x.s by simp]; exact hown1)
        have hB2 : Below w.heap.size w w1 := HB.out.trans ((((Below.refl w.heap.size wr).alloc (by omega) _).alloc (by simp; omega) _).grown hgrow (by simp; omega) (fun j ej => HRB.out j ej))
        have HR2 := Lib.hid hr2
        have HB2 := Lib.hid hB2
        clear hop hsn hr2 hB2 hown1 hgrow
        go_wp2
        go_roundw
        case rel => exact ⟨k + 1, by omega, by go_num, HR2.out, HB2.out⟩
        case measure => simp [intOf]; omega
    · have hk2 : k = min xs.length 50 := by omega
      have hcl : (cutOps xs).length = k := by simp [cutOps]; omega
      have hce : cutOps xs = (xs.take k).map cutOp := by
        unfold cutOps; rw [hk2, Nat.min_comm, ← List.take_eq_take_min]
      have hr2 : wr.ownsRow w.heap.size 38 4 u3 (cutOps xs).length ((cutOps xs).flatMap opCells) := by rw [hcl, hce]; exact hrow
      have HR2 := Lib.hid hr2
      have HB2 := Lib.hid hB
      clear hrow hr2 hB hcl hce hk2
      rcases Nat.lt_or_ge k xs.length with h1 | h1
      · have h2 : (50 : Int) ≤ (k : Int) := by omega
        clear hlt
        go_wp2
        go_ret
        exact ⟨_, rfl, HR2.out, HB2.out⟩
      · have h2 : (xs.length : Int) ≤ (k : Int) := by omega
        clear hlt
        go_wp2
        go_ret
        exact ⟨_, rfl, HR2.out, HB2.out⟩
theorem opCells_at (ys : List Op1) : ∀ i (h : i < ys.length), (ys.flatMap opCells)[i * 4]? = some (.int .i64 ys[i].kind) ∧ (ys.flatMap opCells)[i * 4 + 1]? = some (.int .i64 ys[i].side) ∧ (ys.flatMap opCells)[i * 4 + 2]? = some (.int .i64 ys[i].n) ∧ (ys.flatMap opCells)[i * 4 + 3]? = some (.string ys[i].s) := by
  induction ys with
  | nil => intro i h; simp at h
  | cons y ys ih =>
    intro i h
    rw [List.flatMap_cons]
    match i with
    | 0 => simp [opCells]
    | i + 1 =>
      have h' : i < ys.length := by simpa using h
      obtain ⟨h0, h1, h2, h3⟩ := ih i h'
      have hl : (opCells y).length = 4 := rfl
      refine ⟨?_, ?_, ?_, ?_⟩
      · rw [List.getElem?_append_right (by omega), hl, show (i + 1) * 4 - 4 = i * 4 by omega, h0]; rfl
      · rw [List.getElem?_append_right (by omega), hl, show (i + 1) * 4 + 1 - 4 = i * 4 + 1 by omega, h1]; rfl
      · rw [List.getElem?_append_right (by omega), hl, show (i + 1) * 4 + 2 - 4 = i * 4 + 2 by omega, h2]; rfl
      · rw [List.getElem?_append_right (by omega), hl, show (i + 1) * 4 + 3 - 4 = i * 4 + 3 by omega, h3]; rfl

/-- The slice at a holds these calls, in a block below B. -/
def OpsIn (w : World) (B : Nat) (a : Option Addr) (ys : List Op1) : Prop := 0 < ys.length → ∃ g, a = some ⟨g, 0, none⟩ ∧ g < B ∧ g < w.heap.size ∧ OpsAt w g 0 ys

theorem OpsAt.keeps {w w' : World} {S : List Nat} {g off : Nat} {ys : List Op1} (h : OpsAt w g off ys) (hk : Keeps S w w') (hg : g < w.heap.size) (hs : g ∉ S) : OpsAt w' g off ys := fun i hi => by
  obtain ⟨h0, h1, h2, h3⟩ := h i hi
  exact ⟨(hk.cell (p := ⟨g, off + i * 4, none⟩) hg hs).trans h0, (hk.cell (p := ⟨g, off + i * 4 + 1, none⟩) hg hs).trans h1, (hk.cell (p := ⟨g, off + i * 4 + 2, none⟩) hg hs).trans h2, (hk.cell (p := ⟨g, off + i * 4 + 3, none⟩) hg hs).trans h3⟩

theorem OpsIn.keeps {w w' : World} {S : List Nat} {B : Nat} {a : Option Addr} {ys : List Op1} (h : OpsIn w B a ys) (hk : Keeps S w w') (hs : ∀ k ∈ S, B ≤ k) : OpsIn w' B a ys := fun h0 => by
  obtain ⟨g, ha, hgB, hg, hat⟩ := h h0
  exact ⟨g, ha, hgB, by have := hk.size; omega, hat.keeps hk hg (fun hm => by have := hs g hm; omega)⟩

theorem ops_of_row {w : World} {B : Nat} {v : Value} {ys : List Op1} (h : w.ownsRow B 38 4 v ys.length (ys.flatMap opCells)) : ∃ a c, v = .slice a ys.length c ∧ OpsIn w w.heap.size a ys := by
  rcases h.2 with ⟨rfl, h0⟩ | ⟨g, c, cur, rfl, hb, hg, hn, hc, hs, ht⟩
  · exact ⟨none, 0, by rw [h0], fun h1 => by omega⟩
  · refine ⟨_, c, rfl, fun _ => ⟨g, rfl, Blk.lt hg, Blk.lt hg, fun i hi => ?_⟩⟩
    have hblk : Blk w g 38 cur := hg
    have key : ∀ j u, j < ys.length * 4 → (ys.flatMap opCells)[j]? = some u → cur[j]? = some u := fun j u hj hu => by
      rw [← ht, List.getElem?_take, if_pos hj] at hu
      simpa using hu
    obtain ⟨h0, h1, h2, h3⟩ := opCells_at ys i hi
    rw [hblk.cell, hblk.cell, hblk.cell, hblk.cell, Nat.zero_add]
    exact ⟨key _ _ (by omega) h0, key _ _ (by omega) h1, key _ _ (by omega) h2, key _ _ (by omega) h3⟩

/-- A round's call. -/
theorem OpsIn.at_ {w : World} {B k : Nat} {a : Option Addr} {ys : List Op1} (h : OpsIn w B a ys) (hk : k < ys.length) : ∃ g x, a = some ⟨g, 0, none⟩ ∧ ys[k]? = some x ∧
    w.cell? ⟨g, k * 4, none⟩ = some (.int .i64 x.kind) ∧ w.cell? ⟨g, k * 4 + 1, none⟩ = some (.int .i64 x.side) ∧ w.cell? ⟨g, k * 4 + 2, none⟩ = some (.int .i64 x.n) ∧ w.cell? ⟨g, k * 4 + 3, none⟩ = some (.string x.s) := by
  obtain ⟨g, ha, _, _, hat⟩ := h (by omega)
  have := hat k hk
  rw [Nat.zero_add] at this
  exact ⟨g, ys[k], ha, List.getElem?_eq_getElem hk, this⟩

set_option maxRecDepth 100000 in
theorem cutOp_size (x : Op1) : (cutOp x).s.size ≤ 50 := by
  show (x.s.extract 0 (min x.s.size 50)).size ≤ 50
  simp; omega
theorem cutOps_size (xs : List Op1) : ∀ y ∈ cutOps xs, y.s.size ≤ 50 := fun y hy => by
  obtain ⟨x, _, rfl⟩ := List.mem_map.1 hy
  exact cutOp_size x
theorem cutOps_length (xs : List Op1) : (cutOps xs).length ≤ 50 := by simp [cutOps]; omega

/-- The argument: a slice of calls, nil or empty or not. -/
def OpsArg (w : World) (a : Option Addr) (xs : List Op1) : Prop := (∀ x ∈ xs, x.s.size ≤ maxLen) ∧ xs.length ≤ 9223372036854775807 ∧ (0 < xs.length → ∃ g off, a = some ⟨g, off, none⟩ ∧ g < w.heap.size ∧ OpsAt w g off xs)

theorem OpsArg.keeps {w w' : World} {S : List Nat} {a : Option Addr} {xs : List Op1} (h : OpsArg w a xs) (hk : Keeps S w w') (hs : ∀ k ∈ S, w.heap.size ≤ k) : OpsArg w' a xs :=
  ⟨h.1, h.2.1, fun h0 => by
    obtain ⟨g, off, ha, hg, hat⟩ := h.2.2 h0
    exact ⟨g, off, ha, by have := hk.size; omega, hat.keeps hk hg (fun hm => by have := hs g hm; omega)⟩⟩

set_option maxRecDepth 100000 in
/-- Cut, whatever slice comes in: the calls that it hands back lie in memory. -/
theorem cutops_in (w : World) (a : Option Addr) (c : Nat) (xs : List Op1) (h : OpsArg w a xs) :
    Calls Tryz.prog 5 #[.slice a xs.length c] w fun e w' => ∃ a' c', e = .returned (.slice a' (cutOps xs).length c') ∧ OpsIn w' w'.heap.size a' (cutOps xs) ∧ Keeps [] w w' := by
  rcases Nat.eq_zero_or_pos xs.length with h0 | h0
  · obtain rfl := List.eq_nil_of_length_eq_zero h0
    refine (cutops_nil w c a).mono ?_
    rintro e w' ⟨rfl, rfl⟩
    exact ⟨none, 0, rfl, fun h1 => by simp [cutOps] at h1, Keeps.refl _ _⟩
  · obtain ⟨g, off, rfl, hg, hat⟩ := h.2.2 h0
    refine (cutops_any w g off c xs hat hg h.2.1 h.1).mono ?_
    rintro e w' ⟨v, rfl, hrow, hb⟩
    obtain ⟨a', c', rfl, hin⟩ := ops_of_row hrow
    exact ⟨a', c', rfl, hin, Keeps.of_below hb []⟩

/-- The slice at a holds these calls, in block g. -/
def OpsG (w : World) (g : Nat) (a : Option Addr) (ys : List Op1) : Prop := 0 < ys.length → a = some ⟨g, 0, none⟩ ∧ g < w.heap.size ∧ OpsAt w g 0 ys
theorem OpsG.keeps {w w' : World} {S : List Nat} {g : Nat} {a : Option Addr} {ys : List Op1} (h : OpsG w g a ys) (hk : Keeps S w w') (hs : g ∉ S) : OpsG w' g a ys := fun h0 => by
  obtain ⟨ha, hg, hat⟩ := h h0
  exact ⟨ha, by have := hk.size; omega, hat.keeps hk hg hs⟩
theorem OpsG.at_ {w : World} {g k : Nat} {a : Option Addr} {ys : List Op1} (h : OpsG w g a ys) (hk : k < ys.length) : ∃ x, a = some ⟨g, 0, none⟩ ∧ ys[k]? = some x ∧
    w.cell? ⟨g, k * 4, none⟩ = some (.int .i64 x.kind) ∧ w.cell? ⟨g, k * 4 + 1, none⟩ = some (.int .i64 x.side) ∧ w.cell? ⟨g, k * 4 + 2, none⟩ = some (.int .i64 x.n) ∧ w.cell? ⟨g, k * 4 + 3, none⟩ = some (.string x.s) := by
  obtain ⟨ha, _, hat⟩ := h (by omega)
  have := hat k hk
  rw [Nat.zero_add] at this
  exact ⟨ys[k], ha, List.getElem?_eq_getElem hk, this⟩
theorem ops_of_row_g {w : World} {B : Nat} {v : Value} {ys : List Op1} (h : w.ownsRow B 38 4 v ys.length (ys.flatMap opCells)) : ∃ a c g, v = .slice a ys.length c ∧ OpsG w g a ys ∧ B ≤ g := by
  obtain ⟨a, c, hv, hin⟩ := ops_of_row h
  rcases h.2 with ⟨rfl, h0⟩ | ⟨g, c', cur, rfl, hb, hg, hn, hc, hs, ht⟩
  · exact ⟨a, c, B, hv, fun h1 => by omega, Nat.le_refl _⟩
  · refine ⟨a, c, g, hv, fun h1 => ?_, hb⟩
    obtain ⟨g', ha, _, hg', hat⟩ := hin h1
    subst ha
    injection hv with e1 e2 e3
    injection e1 with e1
    injection e1 with e1
    subst e1
    exact ⟨rfl, hg', hat⟩
theorem cutops_g (w : World) (a : Option Addr) (c : Nat) (xs : List Op1) (h : OpsArg w a xs) :
    Calls Tryz.prog 5 #[.slice a xs.length c] w fun e w' => ∃ a' c' g, e = .returned (.slice a' (cutOps xs).length c') ∧ OpsG w' g a' (cutOps xs) ∧ w.heap.size ≤ g ∧ Keeps [] w w' := by
  rcases Nat.eq_zero_or_pos xs.length with h0 | h0
  · obtain rfl := List.eq_nil_of_length_eq_zero h0
    refine (cutops_nil w c a).mono ?_
    rintro e w' ⟨rfl, rfl⟩
    exact ⟨none, 0, w.heap.size, rfl, fun h1 => by simp [cutOps] at h1, Nat.le_refl _, Keeps.refl _ _⟩
  · obtain ⟨g, off, rfl, hg, hat⟩ := h.2.2 h0
    refine (cutops_any w g off c xs hat hg h.2.1 h.1).mono ?_
    rintro e w' ⟨v, rfl, hrow, hb⟩
    obtain ⟨a', c', g', rfl, hin, hlo⟩ := ops_of_row_g hrow
    exact ⟨a', c', g', rfl, hin, hlo, Keeps.of_below hb []⟩

section
variable {H : Type} {enc : TypeId × Value → H} {W : World} {base : Nat} {spare : Nat → Bool} {held : Bool}

instance : Inhabited Op1 := ⟨⟨0, 0, 0, ByteArray.empty⟩⟩
theorem tint_cells : Tryz.prog.cellsOf 3 = 1 := by kernel_rfl
theorem tstring_cells : Tryz.prog.cellsOf 9 = 1 := by kernel_rfl
theorem tOp_cells : Tryz.prog.cellsOf 38 = 4 := by kernel_rfl

set_option maxRecDepth 100000 in
/-- One element. -/
theorem op_of_trod {fuel : Nat} {a : Addr} {cs : List Value} {x : DataW H × List MemPlace} (hc : W.cells? base a 4 = some cs) (h : DataW.trod enc Tryz.prog W base spare held fuel 38 cs = some x) :
    ∃ o : Op1, W.cell? (a.add 0) = some (.int .i64 o.kind) ∧ W.cell? (a.add 1) = some (.int .i64 o.side) ∧ W.cell? (a.add 2) = some (.int .i64 o.n) ∧ W.cell? (a.add 3) = some (.string o.s) ∧ o.s.size ≤ maxLen := by
  obtain ⟨_, hcl, hat⟩ := World.cells?_some hc
  obtain ⟨ys, n, _, _, _, hyl, hf⟩ := DataW.trod_struct Tryz.underlying38 h
  match cs, hcl with
  | [c0, c1, c2, c3], _ =>
    match ys, hyl with
    | [y0, y1, y2, y3], _ =>
      have h0 : DataW.trod enc Tryz.prog W base spare held n 3 (([c0, c1, c2, c3].drop 0).take (Tryz.prog.cellsOf 3)) = some y0 := hf 0 _ rfl
      have h1 : DataW.trod enc Tryz.prog W base spare held n 3 (([c0, c1, c2, c3].drop 1).take (Tryz.prog.cellsOf 3)) = some y1 := hf 1 _ rfl
      have h2 : DataW.trod enc Tryz.prog W base spare held n 3 (([c0, c1, c2, c3].drop 2).take (Tryz.prog.cellsOf 3)) = some y2 := hf 2 _ rfl
      have h3 : DataW.trod enc Tryz.prog W base spare held n 9 (([c0, c1, c2, c3].drop 3).take (Tryz.prog.cellsOf 9)) = some y3 := hf 3 _ rfl
      rw [tint_cells] at h0 h1 h2
      rw [tstring_cells] at h3
      obtain ⟨k0, e0, _, _⟩ := DataW.trod_int Tryz.underlying3 h0
      obtain ⟨k1, e1, _, _⟩ := DataW.trod_int Tryz.underlying3 h1
      obtain ⟨k2, e2, _, _⟩ := DataW.trod_int Tryz.underlying3 h2
      obtain ⟨s, e3, _, hs⟩ := DataW.trod_string Tryz.underlying9 h3
      obtain rfl : c0 = .int .i64 k0 := by simpa using e0
      obtain rfl : c1 = .int .i64 k1 := by simpa using e1
      obtain rfl : c2 = .int .i64 k2 := by simpa using e2
      obtain rfl : c3 = .string s := by simpa using e3
      exact ⟨⟨k0, k1, k2, s⟩, hat 0 (by omega), hat 1 (by omega), hat 2 (by omega), hat 3 (by omega), hs⟩

set_option maxRecDepth 100000 in
/-- The argument's slice is one of calls. -/
theorem open_ops {v : Value} {d : DataW H} {p : List MemPlace} (hv : Value.okWide Tryz.prog W .any 0 22 v) (h : DataW.Trod enc Tryz.prog W 0 (fun _ => true) true 22 v d p) :
    ∃ (a : Option Addr) (xs : List Op1) (c : Nat), v = .slice a xs.length c ∧ OpsArg W a xs := by
  obtain ⟨a0, len, cap, rfl⟩ := okWide_slice Tryz.underlying22 hv
  obtain ⟨fuel, hf⟩ := h
  rcases open_slice Tryz.underlying22 hf with ⟨hcs, _⟩ | ⟨a, len', cap', m, n, D, Pl, hcs, _, hl, hm, hmm, _, hx⟩
  · have hcs' : Value.slice a0 len cap = .slice none 0 0 := by simpa [Value.cells] using hcs
    injection hcs' with e1 e2 e3
    subst e1 e2 e3
    exact ⟨none, [], 0, rfl, by simp, by simp, fun h0 => by simp at h0⟩
  · have hcs' : Value.slice a0 len cap = .slice (some a) len' cap' := by simpa [Value.cells] using hcs
    injection hcs' with e1 e2 e3
    subst e1 e2 e3
    have hlm : len ≤ m := by rw [hmm]; simp only [if_true]; exact hl
    have hel : ∀ i, i < len → ∃ o : Op1, W.cell? ((a.add (i * 4)).add 0) = some (.int .i64 o.kind) ∧ W.cell? ((a.add (i * 4)).add 1) = some (.int .i64 o.side) ∧ W.cell? ((a.add (i * 4)).add 2) = some (.int .i64 o.n) ∧ W.cell? ((a.add (i * 4)).add 3) = some (.string o.s) ∧ o.s.size ≤ maxLen := fun i hi => by
      obtain ⟨cs', h1, h2⟩ := hx i (by omega)
      rw [tOp_cells] at h1
      exact op_of_trod h1 h2
    obtain ⟨X, hX⟩ := choose_lt hel
    refine ⟨some a, (List.range len).map X, cap, by simp, ?_, by unfold maxLen at hm; simp; omega, fun h0 => ?_⟩
    · intro x hx'
      obtain ⟨i, hi, rfl⟩ := List.mem_map.1 hx'
      exact (hX i (List.mem_range.1 hi)).2.2.2.2
    · have h0' : 0 < len := by simpa using h0
      obtain ⟨b, off, spot⟩ := a
      have hsp : spot = none := by
        have := (hX 0 h0').1
        simp only [Nat.zero_mul, Addr.add, if_true] at this
        unfold World.cell? at this
        split at this
        · split at this
          · cases this
          · rename_i hn; simpa using hn
        · cases this
      subst hsp
      have hadd : ∀ i j, ((⟨b, off, none⟩ : Addr).add (i * 4)).add j = ⟨b, off + i * 4 + j, none⟩ := fun i j => by
        unfold Addr.add
        split <;> split <;> simp_all
      refine ⟨b, off, rfl, ?_, fun i hi => ?_⟩
      · have := (hX 0 h0').1
        rw [hadd] at this
        exact World.block_lt_of_cell? W _ this
      · have hi' : i < len := by simpa using hi
        have := hX i hi'
        rw [hadd, hadd, hadd, hadd] at this
        simp only [List.getElem_map, List.getElem_range]
        exact ⟨this.1, this.2.1, this.2.2.1, this.2.2.2.1⟩
end
end Go.Proofs.YtollcbacpoohlaaGreatDoor
