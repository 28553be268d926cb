/- The walks of the stream's small functions: is, isState, when, half, the events. -/
import Derived.Test.YtollcbacpoohlaaGreatDoorRows
import Derived.Test.YtollcbacpoohlaaGreatDoorStreamP
import Derived.Laws.EntriesVeiled
namespace Go.Proofs.YtollcbacpoohlaaGreatDoor
open Go.RowKit

/-- From cell o of block a on lie these numbers. -/
def IntsAt (w : World) (a o : Nat) (cs : List Int) : Prop := ∀ i (h : i < cs.length), w.cell? ⟨a, o + i, none⟩ = some (.int .i64 cs[i])

set_option maxHeartbeats 400000 in
theorem is_any (s : Int) (a o c : Nat) (cs : List Int) (w : World) (h : IntsAt w a o cs) (hl : cs.length ≤ 1000000) :
    Calls Tryz.prog 48 #[.int .i64 s, .slice (some ⟨a, o, none⟩) cs.length c] w fun e w' => e = .returned (.bool (decide (s ∈ cs))) ∧ w = w' := by
  have H := Lib.hid h
  clear h
  go_enter Tryz.func48, Tryz.ntmps48
  go_wp2
  go_loop [6, 9] (fun _ i => ∃ k : Nat, k ≤ cs.length ∧ i = .int .i64 k ∧ Hid (s ∉ cs.take k)) (fun _ i => cs.length - (intOf i).toNat)
  case atStart => exact ⟨0, Nat.zero_le _, rfl, (by simp : s ∉ cs.take 0)⟩
  case round =>
    obtain ⟨k, hk, rfl, hn⟩ := hrel
    by_cases hlt : k < cs.length
    · obtain ⟨x, hx⟩ : ∃ x, cs[k] = x := ⟨_, rfl⟩
      have hc := H.out k hlt
      rw [hx] at hc
      have htk : cs.take (k + 1) = cs.take k ++ [x] := by rw [List.take_succ_eq_append_getElem hlt, hx]
      have hm : x ∈ cs := by rw [← hx]; exact List.getElem_mem _
      have HTK := Lib.hid htk
      have HM := Lib.hid hm
      clear hx htk hm
      by_cases he : s = x
      · subst he
        go_wp2
        go_ret
        exact ⟨by have := HM.out; simp [this], rfl⟩
      · have he' : (s == x) = false := by simpa using he
        have hn2 : Hid (s ∉ cs.take (k + 1)) := by
          show s ∉ cs.take (k + 1)
          rw [HTK.out]; simp [he]; exact hn.out
        clear he
        go_wp2
        go_round
        case rel => exact ⟨k + 1, by omega, by go_num, hn2⟩
        case measure => simp [intOf]; omega
    · obtain rfl : k = cs.length := by omega
      go_wp2
      go_ret
      have hn1 := hn.out
      rw [List.take_length] at hn1
      exact ⟨by simp [hn1], rfl⟩

theorem isState_any (s : Int) (b : Bool) (hb : decide (0 ≤ s ∧ s < 7) = b) (w : World) :
    Calls Tryz.prog 44 #[.int .i64 s] w fun e w' => e = .returned (.bool b) ∧ w = w' := by
  by_cases h0 : 0 ≤ s
  · by_cases h1 : s < 7
    · obtain rfl : b = true := by rw [← hb]; simp [h0, h1]
      clear hb
      go_enter Tryz.func44, Tryz.ntmps44
      go_wp2
      go_ret
      exact ⟨rfl, rfl⟩
    · obtain rfl : b = false := by rw [← hb]; simp; omega
      clear hb
      go_enter Tryz.func44, Tryz.ntmps44
      go_wp2
      go_ret
      exact ⟨rfl, rfl⟩
  · obtain rfl : b = false := by rw [← hb]; simp; omega
    clear hb
    go_enter Tryz.func44, Tryz.ntmps44
    go_wp2
    go_ret
    exact ⟨rfl, rfl⟩

/-- A move's value. -/
def mval (m : Int × Int) : Value := .agg #[.int .i64 m.1, .int .i64 m.2]

set_option maxHeartbeats 400000 in
theorem when_any (s t : Int) (a o c : Nat) (cs : List Int) (w : World) (h : IntsAt w a o cs) (hl : cs.length ≤ 1000000) (b : Bool) (hb : decide (s ∈ cs) = b) :
    Calls Tryz.prog 102 #[.int .i64 s, .int .i64 t, .slice (some ⟨a, o, none⟩) cs.length c] w fun e w' => e = .returned (.agg #[.int .i64 (if b then s else 0), .int .i64 (if b then t else 0)]) ∧ Keeps [] w w' := by
  have hlt : 0 < cs.length → a < w.heap.size := fun h0 => World.block_lt_of_cell? w _ (h 0 h0)
  have h1 : ∀ ob : Obj, IntsAt (w.alloc ob) a o cs := fun ob i hi => by
    rw [World.cell?_alloc_lt w ob ⟨a, o + i, none⟩ (hlt (by omega))]; exact h i hi
  have H := Lib.hid h1
  have HB := Lib.hid hb
  clear h hlt h1 hb
  cases b with
  | true =>
    go_enter Tryz.func102, Tryz.ntmps102
    go_wp2_with (go_at_call 48; refine (is_any s a o c cs _ (H.out _) hl).mono ?_; rintro e w' ⟨rfl, rfl⟩; rw [HB.out])
    exact bodyPost_ret (v := .agg #[.int .i64 s, .int .i64 t]) (by simp [results, Tryz.results102, go_sem]) rfl ⟨rfl, (Keeps.refl [] w).alloc _⟩
  | false =>
    go_enter Tryz.func102, Tryz.ntmps102
    go_wp2_with (go_at_call 48; refine (is_any s a o c cs _ (H.out _) hl).mono ?_; rintro e w' ⟨rfl, rfl⟩; rw [HB.out])
    exact bodyPost_ret (v := .agg #[.int .i64 0, .int .i64 0]) (by simp [results, Tryz.results102, go_sem]) rfl ⟨rfl, (Keeps.refl [] w).alloc _⟩

/-- when, asked of one state. -/
theorem when_one (s t x : Int) (a c : Nat) (w : World) (h : w.cell? ⟨a, 0, none⟩ = some (.int .i64 x)) (m : Int × Int) (hm : (if s = x then (s, t) else (0, 0)) = m) :
    Calls Tryz.prog 102 #[.int .i64 s, .int .i64 t, .slice (some ⟨a, 0, none⟩) 1 c] w fun e w' => e = .returned (.agg #[.int .i64 m.1, .int .i64 m.2]) ∧ Keeps [] w w' := by
  have h1 : IntsAt w a 0 [x] := fun i hi => by
    obtain rfl : i = 0 := by simpa using hi
    exact h
  by_cases hs : s = x
  · refine (when_any s t a 0 c [x] w h1 (by simp) true (by simp [hs])).mono ?_
    rintro e w' ⟨rfl, hk⟩
    rw [← hm, if_pos hs]; exact ⟨rfl, hk⟩
  · refine (when_any s t a 0 c [x] w h1 (by simp) false (by simp [hs])).mono ?_
    rintro e w' ⟨rfl, hk⟩
    rw [← hm, if_neg hs]; exact ⟨rfl, hk⟩

/-- Where an event leads: the move, (0, 0) if nowhere. -/
def mv (s : Nat) (e : Int) : Int × Int := match nxt s e with
  | some t => ((s : Int), (t : Int))
  | none => (0, 0)

theorem cell_new2 (w : World) (o : Obj) (v : Value) (t : TypeId) : ((w.alloc o).alloc (.cells #[v] t)).cell? ⟨w.heap.size + 1, 0, none⟩ = some v := by
  rw [show w.heap.size + 1 = (w.alloc o).heap.size by simp]
  exact (Blk.new (w.alloc o) t #[v]).cell 0
/-- The world in which a move's variable was laid, behind a call: what it holds, and that it may be written. -/
theorem res_cells {w w1 : World} {o : Obj} {x y : Value} (hk : Keeps [] ((w.alloc (.cells #[x, y] 116)).alloc o) w1) :
    w1.cell? ⟨w.heap.size, 0, none⟩ = some x ∧ w1.cell? ⟨w.heap.size, 1, none⟩ = some y ∧ w1.frozen? ⟨w.heap.size, 0, none⟩ = false ∧ w1.frozen? ⟨w.heap.size, 1, none⟩ = false := by
  have hb := ((Blk.new w 116 #[x, y]).alloc o).keeps hk (by simp)
  exact ⟨hb.cell 0, hb.cell 1, hb.frozen 0, hb.frozen 1⟩
theorem res_cells0 {w w1 : World} {x y : Value} (hk : Keeps [] (w.alloc (.cells #[x, y] 116)) w1) :
    w1.cell? ⟨w.heap.size, 0, none⟩ = some x ∧ w1.cell? ⟨w.heap.size, 1, none⟩ = some y ∧ w1.frozen? ⟨w.heap.size, 0, none⟩ = false ∧ w1.frozen? ⟨w.heap.size, 1, none⟩ = false := by
  have hb := (Blk.new w 116 #[x, y]).keeps hk (by simp)
  exact ⟨hb.cell 0, hb.cell 1, hb.frozen 0, hb.frozen 1⟩
theorem keeps_set2 {w w1 : World} {g : Nat} (hk : Keeps [] w w1) (hg : w.heap.size ≤ g) (x y : Value) : Keeps [] w ((w1.setCell ⟨g, 0, none⟩ x).setCell ⟨g, 1, none⟩ y) :=
  (hk.setCell (p := ⟨g, 0, none⟩) (.inr hg) x).setCell (p := ⟨g, 1, none⟩) (.inr hg) y
theorem states7 {P : Nat → Prop} (h : ∀ s, s < 7 → P s) (s : Nat) (hs : s ≤ 6) : P s := h s (by omega)

theorem set2_0 {w : World} {g : Nat} {u x y : Value} (h : w.cell? ⟨g, 0, none⟩ = some u) : ((w.setCell ⟨g, 0, none⟩ x).setCell ⟨g, 1, none⟩ y).cell? ⟨g, 0, none⟩ = some x := by
  rw [World.cell?_setCell_other _ _ _ _ (by simp)]
  exact World.cell?_setCell_same _ _ _ h
theorem set2_1 {w : World} {g : Nat} {u x y : Value} (h : w.cell? ⟨g, 1, none⟩ = some u) : ((w.setCell ⟨g, 0, none⟩ x).setCell ⟨g, 1, none⟩ y).cell? ⟨g, 1, none⟩ = some y :=
  World.cell?_setCell_same _ _ _ (by rw [World.cell?_setCell_other _ _ _ _ (by simp)]; exact h)

set_option maxHeartbeats 400000 in
theorem open_any (s : Nat) (m : Int × Int) (hm : mv s 1 = m) (hs : s ≤ 6) (w : World) :
    Calls Tryz.prog 91 #[.int .i64 s] w fun e w' => e = .returned (.agg #[.int .i64 m.1, .int .i64 m.2]) ∧ Keeps [] w w' := by
  have hm' : (if (s : Int) = 0 then ((s : Int), (1 : Int)) else (0, 0)) = m := by
    rw [← hm]
    have : s = 0 ∨ s = 1 ∨ s = 2 ∨ s = 3 ∨ s = 4 ∨ s = 5 ∨ s = 6 := by omega
    rcases this with rfl | rfl | rfl | rfl | rfl | rfl | rfl <;> rfl
  have HM := Lib.hid hm'
  clear hm hm'
  go_enter Tryz.func91, Tryz.ntmps91
  go_wp2_with (fail)
  refine (when_one s 1 0 _ 1 _ (cell_new2 _ _ _ _) m HM.out).mono ?_
  rintro e w1 ⟨rfl, hk⟩
  obtain ⟨c0, c1, f0, f1⟩ := res_cells hk
  have HK := Lib.hid ((((Keeps.refl [] w).alloc _).alloc _).trans hk)
  clear hk
  go_wp2_with (fail)
  exact bodyPost_ret (v := .agg #[.int .i64 m.1, .int .i64 m.2]) (by simp [results, Tryz.results91, go_sem, set2_0 c0, set2_1 c1]) rfl ⟨rfl, keeps_set2 HK.out (Nat.le_refl _) _ _⟩

set_option maxHeartbeats 400000 in
theorem accept_any (s : Nat) (m : Int × Int) (hm : mv s 2 = m) (hs : s ≤ 6) (w : World) :
    Calls Tryz.prog 92 #[.int .i64 s] w fun e w' => e = .returned (.agg #[.int .i64 m.1, .int .i64 m.2]) ∧ Keeps [] w w' := by
  have hm' : (if (s : Int) = 1 then ((s : Int), (2 : Int)) else (0, 0)) = m := by
    rw [← hm]
    have : s = 0 ∨ s = 1 ∨ s = 2 ∨ s = 3 ∨ s = 4 ∨ s = 5 ∨ s = 6 := by omega
    rcases this with rfl | rfl | rfl | rfl | rfl | rfl | rfl <;> rfl
  have HM := Lib.hid hm'
  clear hm hm'
  go_enter Tryz.func92, Tryz.ntmps92
  go_wp2_with (fail)
  refine (when_one s 2 1 _ 1 _ (cell_new2 _ _ _ _) m HM.out).mono ?_
  rintro e w1 ⟨rfl, hk⟩
  obtain ⟨c0, c1, f0, f1⟩ := res_cells hk
  have HK := Lib.hid ((((Keeps.refl [] w).alloc _).alloc _).trans hk)
  clear hk
  go_wp2_with (fail)
  exact bodyPost_ret (v := .agg #[.int .i64 m.1, .int .i64 m.2]) (by simp [results, Tryz.results92, go_sem, set2_0 c0, set2_1 c1]) rfl ⟨rfl, keeps_set2 HK.out (Nat.le_refl _) _ _⟩

set_option maxHeartbeats 400000 in
theorem refuse_any (s : Nat) (m : Int × Int) (hm : mv s 3 = m) (hs : s ≤ 6) (w : World) :
    Calls Tryz.prog 93 #[.int .i64 s] w fun e w' => e = .returned (.agg #[.int .i64 m.1, .int .i64 m.2]) ∧ Keeps [] w w' := by
  have hm' : (if (s : Int) = 1 then ((s : Int), (6 : Int)) else (0, 0)) = m := by
    rw [← hm]
    have : s = 0 ∨ s = 1 ∨ s = 2 ∨ s = 3 ∨ s = 4 ∨ s = 5 ∨ s = 6 := by omega
    rcases this with rfl | rfl | rfl | rfl | rfl | rfl | rfl <;> rfl
  have HM := Lib.hid hm'
  clear hm hm'
  go_enter Tryz.func93, Tryz.ntmps93
  go_wp2_with (fail)
  refine (when_one s 6 1 _ 1 _ (cell_new2 _ _ _ _) m HM.out).mono ?_
  rintro e w1 ⟨rfl, hk⟩
  obtain ⟨c0, c1, f0, f1⟩ := res_cells hk
  have HK := Lib.hid ((((Keeps.refl [] w).alloc _).alloc _).trans hk)
  clear hk
  go_wp2_with (fail)
  exact bodyPost_ret (v := .agg #[.int .i64 m.1, .int .i64 m.2]) (by simp [results, Tryz.results93, go_sem, set2_0 c0, set2_1 c1]) rfl ⟨rfl, keeps_set2 HK.out (Nat.le_refl _) _ _⟩

set_option maxHeartbeats 1000000 in
theorem half_any (s : Nat) (own other : Int) (m : Int × Int) (hm : (if (s : Int) = other then ((s : Int), (5 : Int)) else if (s : Int) = 2 then ((s : Int), own) else (0, 0)) = m) (w : World) :
    Calls Tryz.prog 103 #[.int .i64 s, .int .i64 own, .int .i64 other] w fun e w' => e = .returned (.agg #[.int .i64 m.1, .int .i64 m.2]) ∧ Keeps [] w w' := by
  by_cases h0 : (s : Int) = other
  · obtain rfl : m = ((s : Int), (5 : Int)) := by rw [← hm, if_pos h0]
    have HM1 : Hid ((if (s : Int) = other then ((s : Int), (5 : Int)) else (0, 0)) = ((s : Int), (5 : Int))) := if_pos h0
    clear hm h0
    go_enter Tryz.func103, Tryz.ntmps103
    go_wp2_with (fail)
    refine (when_one s 5 other _ 1 _ (cell_new2 _ _ _ _) _ HM1.out).mono ?_
    rintro e w1 ⟨rfl, hk⟩
    obtain ⟨c0, c1, f0, f1⟩ := res_cells hk
    have hlt : w.heap.size ≠ w1.heap.size := by have := hk.size; simp at this; omega
    have hlt2 : w.heap.size < w1.heap.size := by have := hk.size; simp at this; omega
    have HK := Lib.hid ((((Keeps.refl [] w).alloc _).alloc _).trans hk)
    clear hk
    go_wp2_with (fail)
    all_goals exact bodyPost_ret (v := .agg #[.int .i64 s, .int .i64 5]) (by simp [results, Tryz.results103, go_sem, c0, c1, hlt2, World.cell?_setCell_same, World.cell?_setCell_other]) rfl ⟨rfl, (keeps_set2 HK.out (Nat.le_refl _) _ _).alloc _⟩
  · have HM1 : Hid ((if (s : Int) = other then ((s : Int), (5 : Int)) else (0, 0)) = ((0 : Int), (0 : Int))) := if_neg h0
    have HM2 : Hid ((if (s : Int) = 2 then ((s : Int), own) else (0, 0)) = m) := by rw [if_neg h0] at hm; exact hm
    clear hm h0
    go_enter Tryz.func103, Tryz.ntmps103
    go_wp2_with (fail)
    refine (when_one s 5 other _ 1 _ (cell_new2 _ _ _ _) _ HM1.out).mono ?_
    rintro e w1 ⟨rfl, hk⟩
    have HK := Lib.hid ((((Keeps.refl [] w).alloc _).alloc _).trans hk)
    have HB := Lib.hid (((Blk.new w 116 #[.int .i64 0, .int .i64 0]).alloc _).keeps hk (by simp))
    clear hk
    go_wp2_with (fail)
    refine (when_one s own 2 _ 1 _ (cell_new2 _ _ _ _) m HM2.out).mono ?_
    rintro e w2 ⟨rfl, hk⟩
    have hb := (((HB.out.alloc (.cells #[.int .i64 0, .int .i64 0] 116)).alloc (.cells #[.int .i64 2] 3))).keeps hk (by simp)
    have c0 := hb.cell 0
    have c1 := hb.cell 1
    have f0 := hb.frozen 0
    have f1 := hb.frozen 1
    have HK2 := Lib.hid (((HK.out.alloc _).alloc _).trans hk)
    clear hk hb
    go_wp2_with (fail)
    exact bodyPost_ret (v := .agg #[.int .i64 m.1, .int .i64 m.2]) (by simp [results, Tryz.results103, go_sem, set2_0 c0, set2_1 c1]) rfl ⟨rfl, keeps_set2 HK2.out (Nat.le_refl _) _ _⟩
set_option maxHeartbeats 400000 in
theorem endIn_any (s : Nat) (m : Int × Int) (hm : mv s 4 = m) (hs : s ≤ 6) (w : World) :
    Calls Tryz.prog 94 #[.int .i64 s] w fun e w' => e = .returned (.agg #[.int .i64 m.1, .int .i64 m.2]) ∧ Keeps [] w w' := by
  have hm' : (if (s : Int) = 4 then ((s : Int), (5 : Int)) else if (s : Int) = 2 then ((s : Int), (3 : Int)) else (0, 0)) = m := by
    rw [← hm]
    have : s = 0 ∨ s = 1 ∨ s = 2 ∨ s = 3 ∨ s = 4 ∨ s = 5 ∨ s = 6 := by omega
    rcases this with rfl | rfl | rfl | rfl | rfl | rfl | rfl <;> rfl
  have HM := Lib.hid hm'
  clear hm hm'
  go_enter Tryz.func94, Tryz.ntmps94
  go_wp2_with (fail)
  refine (half_any s 3 4 m HM.out _).mono ?_
  rintro e w1 ⟨rfl, hk⟩
  obtain ⟨c0, c1, f0, f1⟩ := res_cells0 hk
  have HK := Lib.hid (((Keeps.refl [] w).alloc _).trans hk)
  clear hk
  go_wp2_with (fail)
  exact bodyPost_ret (v := .agg #[.int .i64 m.1, .int .i64 m.2]) (by simp [results, Tryz.results94, go_sem, set2_0 c0, set2_1 c1]) rfl ⟨rfl, keeps_set2 HK.out (Nat.le_refl _) _ _⟩

set_option maxHeartbeats 400000 in
theorem endOut_any (s : Nat) (m : Int × Int) (hm : mv s 5 = m) (hs : s ≤ 6) (w : World) :
    Calls Tryz.prog 95 #[.int .i64 s] w fun e w' => e = .returned (.agg #[.int .i64 m.1, .int .i64 m.2]) ∧ Keeps [] w w' := by
  have hm' : (if (s : Int) = 3 then ((s : Int), (5 : Int)) else if (s : Int) = 2 then ((s : Int), (4 : Int)) else (0, 0)) = m := by
    rw [← hm]
    have : s = 0 ∨ s = 1 ∨ s = 2 ∨ s = 3 ∨ s = 4 ∨ s = 5 ∨ s = 6 := by omega
    rcases this with rfl | rfl | rfl | rfl | rfl | rfl | rfl <;> rfl
  have HM := Lib.hid hm'
  clear hm hm'
  go_enter Tryz.func95, Tryz.ntmps95
  go_wp2_with (fail)
  refine (half_any s 4 3 m HM.out _).mono ?_
  rintro e w1 ⟨rfl, hk⟩
  obtain ⟨c0, c1, f0, f1⟩ := res_cells0 hk
  have HK := Lib.hid (((Keeps.refl [] w).alloc _).trans hk)
  clear hk
  go_wp2_with (fail)
  exact bodyPost_ret (v := .agg #[.int .i64 m.1, .int .i64 m.2]) (by simp [results, Tryz.results95, go_sem, set2_0 c0, set2_1 c1]) rfl ⟨rfl, keeps_set2 HK.out (Nat.le_refl _) _ _⟩

set_option maxHeartbeats 1000000 in
theorem reset_any (s : Nat) (m : Int × Int) (hm : mv s 6 = m) (hs : s ≤ 6) (w : World) :
    Calls Tryz.prog 96 #[.int .i64 s] w fun e w' => e = .returned (.agg #[.int .i64 m.1, .int .i64 m.2]) ∧ Keeps [] w w' := by
  have : s = 0 ∨ s = 1 ∨ s = 2 ∨ s = 3 ∨ s = 4 ∨ s = 5 ∨ s = 6 := by omega
  rcases this with rfl | rfl | rfl | rfl | rfl | rfl | rfl
  all_goals
    clear hs
    obtain rfl := hm
    go_enter Tryz.func96, Tryz.ntmps96
    go_wp2
    first
      | exact bodyPost_ret (v := .agg #[.int .i64 0, .int .i64 0]) (by simp [results, Tryz.results96, go_sem]) rfl ⟨rfl, (Keeps.refl [] w).alloc _⟩
      | exact bodyPost_ret (v := .agg #[.int .i64 1, .int .i64 6]) (by simp [results, Tryz.results96, go_sem]) rfl ⟨rfl, (Keeps.refl [] w).alloc _⟩
      | exact bodyPost_ret (v := .agg #[.int .i64 2, .int .i64 6]) (by simp [results, Tryz.results96, go_sem]) rfl ⟨rfl, (Keeps.refl [] w).alloc _⟩
      | exact bodyPost_ret (v := .agg #[.int .i64 3, .int .i64 6]) (by simp [results, Tryz.results96, go_sem]) rfl ⟨rfl, (Keeps.refl [] w).alloc _⟩
      | exact bodyPost_ret (v := .agg #[.int .i64 4, .int .i64 6]) (by simp [results, Tryz.results96, go_sem]) rfl ⟨rfl, (Keeps.refl [] w).alloc _⟩

theorem none_any (s : Nat) (w : World) :
    Calls Tryz.prog 90 #[.int .i64 s] w fun e w' => e = .returned (.agg #[.int .i64 0, .int .i64 0]) ∧ Keeps [] w w' := by
  go_enter Tryz.func90, Tryz.ntmps90
  go_wp2
  exact bodyPost_ret (v := .agg #[.int .i64 0, .int .i64 0]) (by simp [results, Tryz.results90, go_sem]) rfl ⟨rfl, (Keeps.refl [] w).alloc _⟩

/-- The array of the events' functions. -/
def evVal : Value := .agg #[.func (.func 90) #[] #[], .func (.func 91) #[] #[], .func (.func 92) #[] #[], .func (.func 93) #[] #[], .func (.func 94) #[] #[], .func (.func 95) #[] #[], .func (.func 96) #[] #[]]
def evCells : Array Value := #[.func (.func 90) #[] #[], .func (.func 91) #[] #[], .func (.func 92) #[] #[], .func (.func 93) #[] #[], .func (.func 94) #[] #[], .func (.func 95) #[] #[], .func (.func 96) #[] #[]]

set_option maxHeartbeats 400000 in
theorem events_any (w : World) :
    Calls Tryz.prog 72 #[] w fun e w' => e = .returned evVal ∧ Keeps [] w w' := by
  go_enter Tryz.func72, Tryz.ntmps72
  go_wp2
  exact bodyPost_ret (v := evVal) (by simp [results, Tryz.results72, go_sem, evVal]) rfl ⟨rfl, (Keeps.refl [] w).alloc _⟩
end Go.Proofs.YtollcbacpoohlaaGreatDoor
