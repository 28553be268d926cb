/- The walk of the document's answer for the stream: Least. -/
import Derived.Test.YtfgkfhchnnkonaaStreamR
namespace Go.Proofs.Ytfgkfhchnnkonaa
open Go.RowKit
attribute [local go_sem ↓] Go.wp_at_zero Go.wp_at_succ

/-- What one state's events add. -/
def evs (s : Nat) : Nat → List Bool → List Bool
  | 0, bs => bs
  | e + 1, bs => match nxt s ((e : Int) + 1) with
    | some t => (evs s e bs).set t true
    | none => evs s e bs
/-- What the events of the first states add. -/
def mid (bs : List Bool) : Nat → List Bool
  | 0 => bs
  | s + 1 => if bs.getD s false then evs s 6 (mid bs s) else mid bs s
/-- What is seen behind so many events. -/
def lev (f : Nat) : Nat → List Bool
  | 0 => (List.replicate 7 false).set f true
  | n + 1 => mid (lev f n) 7
theorem evs_len (s e : Nat) (bs : List Bool) : (evs s e bs).length = bs.length := by
  induction e with
  | zero => rfl
  | succ e ih => unfold evs; split <;> simp [ih]
theorem mid_len (bs : List Bool) (s : Nat) : (mid bs s).length = bs.length := by
  induction s with
  | zero => rfl
  | succ s ih => unfold mid; split <;> simp [ih, evs_len]
theorem lev_len (f n : Nat) : (lev f n).length = 7 := by
  induction n with
  | zero => simp [lev]
  | succ n ih => unfold lev; rw [mid_len, ih]
def levOk (f t : Nat) : Bool := match dist f t with
  | some m => decide (m < 7) && (lev f m).getD t false && (List.range m).all fun k => !(lev f k).getD t false
  | none => (List.range 7).all fun k => !(lev f k).getD t false
theorem levOk_all : ((List.range 7).all fun f => (List.range 7).all fun t => levOk f t) = true := by decide +kernel
theorem lev_ok (f t : Nat) (hf : f ≤ 6) (ht : t ≤ 6) : levOk f t = true :=
  List.all_eq_true.1 (List.all_eq_true.1 levOk_all f (List.mem_range.2 (by omega))) t (List.mem_range.2 (by omega))
theorem lev_found (f t n : Nat) (hf : f ≤ 6) (ht : t ≤ 6) (hn : n < 7) (h : (lev f n).getD t false = true) (hb : ∀ m, m < n → (lev f m).getD t false = false) : dist f t = some n := by
  have h0 := lev_ok f t hf ht
  unfold levOk at h0
  cases hd : dist f t with
  | none =>
    rw [hd] at h0
    have := List.all_eq_true.1 h0 n (List.mem_range.2 hn)
    rw [h] at this; cases this
  | some m =>
    rw [hd] at h0
    dsimp only at h0
    rw [Bool.and_eq_true, Bool.and_eq_true] at h0
    obtain ⟨⟨_, h1⟩, h2⟩ := h0
    rcases Nat.lt_trichotomy m n with hlt | heq | hgt
    · rw [hb m hlt] at h1; cases h1
    · rw [heq]
    · have := List.all_eq_true.1 h2 n (List.mem_range.2 hgt)
      rw [h] at this; cases this
theorem lev_not (f t : Nat) (hf : f ≤ 6) (ht : t ≤ 6) (hb : ∀ m, m < 7 → (lev f m).getD t false = false) : dist f t = none := by
  have h0 := lev_ok f t hf ht
  unfold levOk at h0
  cases hd : dist f t with
  | none => rfl
  | some m =>
    rw [hd] at h0
    dsimp only at h0
    rw [Bool.and_eq_true, Bool.and_eq_true] at h0
    obtain ⟨⟨hm, h1⟩, _⟩ := h0
    rw [hb m (by simpa using hm)] at h1; cases h1

/-- Some bools as a block's cells. -/
def bcells (bs : List Bool) : Array Value := (bs.map Value.bool).toArray
theorem bcells_get (bs : List Bool) (i : Nat) (h : i < bs.length) : (bcells bs)[i]? = some (.bool (bs.getD i false)) := by
  simp [bcells, List.getD, h]
theorem bcells_set (bs : List Bool) (i : Nat) : (bcells bs).setIfInBounds i (.bool true) = bcells (bs.set i true) := by
  simp [bcells, List.map_set]
theorem len7 {bs : List Bool} (h : bs.length = 7) : ∃ a b c d e f g, bs = [a, b, c, d, e, f, g] := by
  match bs, h with
  | [a, b, c, d, e, f, g], _ => exact ⟨a, b, c, d, e, f, g, rfl⟩

set_option maxRecDepth 100000 in
set_option maxHeartbeats 4000000 in
theorem rleast_ok (f t : Nat) (hf : f ≤ 6) (ht : t ≤ 6) (w : World) :
    Calls Try.prog 19 #[.int .i64 f, .int .i64 t] w fun r w' => r = .returned (.tuple #[.int .i64 ((dist f t).getD 0 : Nat), .bool (dist f t).isSome]) ∧ Keeps [] w w' := by
  have hf0 : ¬ (f : Int) < 0 := by omega
  have hf1 : ¬ (6 : Int) < (f : Int) := by omega
  have ht0 : ¬ (t : Int) < 0 := by omega
  have ht1 : ¬ (6 : Int) < (t : Int) := by omega
  have hf7 : (f : Int) < 7 := by omega
  have ht7 : (t : Int) < 7 := by omega
  have hz : [Value.bool false, Value.bool false, Value.bool false, Value.bool false, Value.bool false, Value.bool false, Value.bool false][f]? = some (.bool false) := by
    have : f = 0 ∨ f = 1 ∨ f = 2 ∨ f = 3 ∨ f = 4 ∨ f = 5 ∨ f = 6 := by omega
    rcases this with rfl | rfl | rfl | rfl | rfl | rfl | rfl <;> rfl
  have hb0 := Blk.new w 45 ([Value.bool false, Value.bool false, Value.bool false, Value.bool false, Value.bool false, Value.bool false, Value.bool false].set f (Value.bool true)).toArray
  have he0 : ([Value.bool false, Value.bool false, Value.bool false, Value.bool false, Value.bool false, Value.bool false, Value.bool false].set f (Value.bool true)).toArray = bcells (lev f 0) := by
    simp [bcells, lev, List.map_set, List.replicate]
  have hk0 := (Keeps.refl [] w).alloc (.cells ([Value.bool false, Value.bool false, Value.bool false, Value.bool false, Value.bool false, Value.bool false, Value.bool false].set f (Value.bool true)).toArray 45)
  have HB0 : Hid (Blk (w.alloc (.cells ([Value.bool false, Value.bool false, Value.bool false, Value.bool false, Value.bool false, Value.bool false, Value.bool false].set f (Value.bool true)).toArray 45)) w.heap.size 45 (bcells (lev f 0))) := Lib.hid (he0 ▸ hb0)
  have HK0 := Lib.hid hk0
  clear hb0 he0 hk0
  go_enter Try.func19, Try.ntmps19
  go_wp2_with (fail)
  go_loopw [7, 8, 9] (fun i _ _ wr => ∃ n : Nat, n ≤ 7 ∧ i = .int .i64 n ∧ Blk wr w.heap.size 45 (bcells (lev f n)) ∧ (∀ m, m < n → (lev f m).getD t false = false) ∧ Keeps [] w wr) (fun i _ _ _ => 7 - (intOf i).toNat)
  case atStart => exact ⟨0, by omega, rfl, HB0.out, fun m h => absurd h (by omega), HK0.out⟩
  case round =>
    obtain ⟨n, hn, rfl, hB, hno, hK⟩ := hrel
    obtain ⟨wo, rfl⟩ : ∃ wo : World, wo = wr := ⟨_, rfl⟩
    have HB := Lib.hid hB
    have HK := Lib.hid hK
    have HNO := Lib.hid hno
    have hc := hB.cell t
    rw [bcells_get _ _ (by rw [lev_len]; omega)] at hc
    clear hB hK hno
    by_cases hlt : n < 7
    · have hn2 : decide ((n : Int) < 7) = true := by simp; omega
      cases hl : (lev f n).getD t false with
      | true =>
        have hd := lev_found f t n hf ht hlt hl HNO.out
        have HE : Hid ((dist f t).getD 0 = n ∧ (dist f t).isSome = true) := Lib.hid (by rw [hd]; exact ⟨rfl, rfl⟩)
        rw [hl] at hc
        clear hl hd
        go_wp2
        rw [HE.out.1, HE.out.2]
        go_ret2
        exact ⟨rfl, HK.out⟩
      | false =>
        rw [hl] at hc
        have HL := Lib.hid hl
        obtain ⟨b0, b1, b2, b3, b4, b5, b6, hbs⟩ := len7 (lev_len f n)
        have hcs := HB.out
        rw [hbs] at hcs
        have c0 := hcs.cell 0
        have c1 := hcs.cell 1
        have c2 := hcs.cell 2
        have c3 := hcs.cell 3
        have c4 := hcs.cell 4
        have c5 := hcs.cell 5
        have c6 := hcs.cell 6
        simp only [bcells, List.map_cons, List.map_nil] at c0 c1 c2 c3 c4 c5 c6
        have HBS := Lib.hid hbs
        clear hbs hcs hl
        have hk1 := HK.out.alloc (.cells #[Value.bool b0, Value.bool b1, Value.bool b2, Value.bool b3, Value.bool b4, Value.bool b5, Value.bool b6] 45)
        have HK1 := Lib.hid hk1
        have HB1 := Lib.hid (HB.out.alloc (.cells #[Value.bool b0, Value.bool b1, Value.bool b2, Value.bool b3, Value.bool b4, Value.bool b5, Value.bool b6] 45))
        have HG1 : Hid (Blk (wo.alloc (.cells #[Value.bool b0, Value.bool b1, Value.bool b2, Value.bool b3, Value.bool b4, Value.bool b5, Value.bool b6] 45)) wo.heap.size 45 (bcells (mid (lev f n) 0))) := Lib.hid (by
          rw [show mid (lev f n) 0 = lev f n from rfl, HBS.out]; exact Blk.new wo 45 _)
        have hg6 : w.heap.size ≠ wo.heap.size := by have := HB.out.lt; omega
        have HW6 := Lib.hid HK.out.size
        clear hk1
        go_wp2
        go_loopw [9, 10, 11, 12] (fun i _ _ _ w2 => ∃ s : Nat, s ≤ 7 ∧ i = .int .i64 s ∧ Blk w2 wo.heap.size 45 (bcells (mid (lev f n) s)) ∧ Blk w2 w.heap.size 45 (bcells (lev f n)) ∧ Keeps [] w w2) (fun i _ _ _ _ => 7 - (intOf i).toNat)
        case atStart => exact ⟨0, by omega, rfl, HG1.out, HB1.out, HK1.out⟩
        case round =>
          clear HG1 HB1 HK1
          obtain ⟨s, hs, rfl, hG, hB, hK⟩ := hrel
          have HG2 := Lib.hid hG
          have HB2 := Lib.hid hB
          have HK2 := Lib.hid hK
          clear hG hB hK c0 c1 c2 c3 c4 c5 c6 hc
          by_cases hs7 : s < 7
          · obtain ⟨w3, rfl⟩ : ∃ w3 : World, w3 = wr := ⟨_, rfl⟩
            have hcs := HB2.out.cell s
            rw [bcells_get _ _ (by rw [lev_len]; omega)] at hcs
            have hs0 : (0 : Int) ≤ (s : Int) := by omega
            have hs1 : (s : Int) < 7 := by omega
            have hs2 : decide ((s : Int) < 7) = true := decide_eq_true hs1
            cases hl : (lev f n).getD s false with
            | false =>
              rw [hl] at hcs
              have HM : Hid (mid (lev f n) (s + 1) = mid (lev f n) s) := Lib.hid (by rw [mid, hl]; rfl)
              clear hl
              go_wp2
              go_loopw [10, 11, 12] (fun e _ _ w4 => e = .int .i64 1 ∧ w3 = w4) (fun _ _ _ _ => 0)
              case atStart => exact ⟨rfl, rfl⟩
              case round =>
                obtain ⟨rfl, rfl⟩ := hrel
                go_wp2
                go_roundw
                case rel => exact ⟨s + 1, by omega, by go_num, HM.out ▸ HG2.out, HB2.out, HK2.out⟩
                case measure => simp [intOf]; omega
            | true =>
              rw [hl] at hcs
              have HM : Hid (mid (lev f n) (s + 1) = evs s 6 (mid (lev f n) s)) := Lib.hid (by rw [mid, hl]; rfl)
              have HLS := Lib.hid hl
              clear hl
              go_wp2
              go_loopw [10, 11, 12] (fun i _ _ w4 => ∃ e : Nat, e ≤ 6 ∧ i = .int .i64 ((e : Int) + 1) ∧ Blk w4 wo.heap.size 45 (bcells (evs s e (mid (lev f n) s))) ∧ Blk w4 w.heap.size 45 (bcells (lev f n)) ∧ Keeps [] w w4) (fun i _ _ _ => 8 - (intOf i).toNat)
              case atStart => exact ⟨0, by omega, rfl, HG2.out, HB2.out, HK2.out⟩
              case round =>
                obtain ⟨e, he, rfl, hG, hB, hK⟩ := hrel
                have HG3 := Lib.hid hG
                have HB3 := Lib.hid hB
                have HK3 := Lib.hid hK
                have hcs := hB.cell s
                rw [bcells_get _ _ (by rw [lev_len]; omega), HLS.out] at hcs
                have HS := Lib.hid hcs
                clear hG hB hK hcs
                by_cases he6 : e < 6
                · have hcs := HS.out
                  cases hn : nxt s ((e : Int) + 1) with
                  | none =>
                    have HE : Hid (evs s (e + 1) (mid (lev f n) s) = evs s e (mid (lev f n) s)) := Lib.hid (by rw [evs, hn])
                    have hA : Hid (nextA s ((e : Int) + 1) = (0, 140)) := Lib.hid (by unfold nextA; rw [if_pos (by omega), Int.toNat_natCast, hn])
                    clear hn
                    go_wp2_with (fail)
                    refine (rnext_any _ _ _ _ hA.out _).mono ?_
                    rintro r w1 ⟨rfl, rfl⟩
                    go_wp2
                    go_roundw
                    case rel => exact ⟨e + 1, by omega, by go_num, HE.out ▸ HG3.out, HB3.out, HK3.out⟩
                    case measure => simp [intOf]; omega
                  | some u =>
                    have HE : Hid (evs s (e + 1) (mid (lev f n) s) = (evs s e (mid (lev f n) s)).set u true) := Lib.hid (by rw [evs, hn])
                    have hA : Hid (nextA s ((e : Int) + 1) = ((u : Int), 0)) := Lib.hid (by unfold nextA; rw [if_pos (by omega), Int.toNat_natCast, hn])
                    have hu := (nxt_lt hn).1
                    have hu0 : (0 : Int) ≤ (u : Int) := by omega
                    have hu7 : (u : Int) < 7 := by omega
                    have hcu := HG3.out.cell u
                    rw [bcells_get _ _ (by rw [evs_len, mid_len, lev_len]; omega)] at hcu
                    have hfu := HG3.out.frozen u
                    have HGN := Lib.hid (HG3.out.set_ u (.bool true))
                    have HBN := Lib.hid (HB3.out.far (p := ⟨wo.heap.size, u, none⟩) hg6 (.bool true))
                    have HKN := Lib.hid (HK3.out.setCell (p := ⟨wo.heap.size, u, none⟩) (.inr HW6.out) (.bool true))
                    clear hn
                    go_wp2_with (fail)
                    refine (rnext_any _ _ _ _ hA.out _).mono ?_
                    rintro r w1 ⟨rfl, rfl⟩
                    go_wp2
                    go_roundw
                    case rel => exact ⟨e + 1, by omega, by go_num, by rw [HE.out, ← bcells_set]; exact HGN.out, HBN.out, HKN.out⟩
                    case measure => simp [intOf]; omega
                · obtain rfl : e = 6 := by omega
                  go_wp2
                  go_roundw
                  case rel => exact ⟨s + 1, by omega, by go_num, HM.out ▸ HG3.out, HB3.out, HK3.out⟩
                  case measure => simp [intOf]; omega
          · obtain rfl : s = 7 := by omega
            obtain ⟨d0, d1, d2, d3, d4, d5, d6, hds⟩ := len7 (show (lev f (n + 1)).length = 7 from lev_len f (n + 1))
            have hcs := HG2.out
            rw [show mid (lev f n) 7 = lev f (n + 1) from rfl, hds] at hcs
            have c0 := hcs.cell 0
            have c1 := hcs.cell 1
            have c2 := hcs.cell 2
            have c3 := hcs.cell 3
            have c4 := hcs.cell 4
            have c5 := hcs.cell 5
            have c6 := hcs.cell 6
            simp only [bcells, List.map_cons, List.map_nil] at c0 c1 c2 c3 c4 c5 c6
            have hbs := HB2.out
            rw [HBS.out] at hbs
            have g0 := hbs.cell 0
            have g1 := hbs.cell 1
            have g2 := hbs.cell 2
            have g3 := hbs.cell 3
            have g4 := hbs.cell 4
            have g5 := hbs.cell 5
            have g6 := hbs.cell 6
            simp only [bcells, List.map_cons, List.map_nil] at g0 g1 g2 g3 g4 g5 g6
            have f0 := hbs.frozen 0
            have f1 := hbs.frozen 1
            have f2 := hbs.frozen 2
            have f3 := hbs.frozen 3
            have f4 := hbs.frozen 4
            have f5 := hbs.frozen 5
            have f6 := hbs.frozen 6
            have HDS := Lib.hid hds
            have HBF := Lib.hid hbs
            clear hcs hbs hds
            go_wp2
            go_roundw
            case rel =>
              refine ⟨n + 1, by omega, by go_num, ?_, fun m hm => ?_, ?_⟩
              · rw [HDS.out]
                exact ((((((HBF.out.set_ 0 _).set_ 1 _).set_ 2 _).set_ 3 _).set_ 4 _).set_ 5 _).set_ 6 _
              · rcases Nat.lt_or_ge m n with h | h
                · exact HNO.out m h
                · obtain rfl : m = n := by omega
                  exact HL.out
              · exact ((((((HK2.out.setCell (.inr (Nat.le_refl _)) _).setCell (.inr (Nat.le_refl _)) _).setCell (.inr (Nat.le_refl _)) _).setCell (.inr (Nat.le_refl _)) _).setCell (.inr (Nat.le_refl _)) _).setCell (.inr (Nat.le_refl _)) _).setCell (.inr (Nat.le_refl _)) _
            case measure => simp [intOf]; omega
    · obtain rfl : n = 7 := by omega
      have hd := lev_not f t hf ht HNO.out
      have HE : Hid ((dist f t).getD 0 = 0 ∧ (dist f t).isSome = false) := Lib.hid (by rw [hd]; exact ⟨rfl, rfl⟩)
      clear hd hc
      go_wp2
      rw [HE.out.1, HE.out.2]
      go_ret2
      exact ⟨rfl, HK.out⟩

theorem rleast_bad (f t : Int) (hbad : ¬ ((0 ≤ f ∧ f < 7) ∧ (0 ≤ t ∧ t < 7))) (w : World) :
    Calls Try.prog 19 #[.int .i64 f, .int .i64 t] w fun r w' => r = .returned (.tuple #[.int .i64 0, .bool false]) ∧ Keeps [] w w' := by
  rcases (show f < 0 ∨ (¬ f < 0 ∧ 6 < f) ∨ (¬ f < 0 ∧ ¬ 6 < f ∧ t < 0) ∨ (¬ f < 0 ∧ ¬ 6 < f ∧ ¬ t < 0 ∧ 6 < t) by omega) with h | ⟨h, h1⟩ | ⟨h, h1, h2⟩ | ⟨h, h1, h2, h3⟩
  all_goals
    clear hbad
    go_enter Try.func19, Try.ntmps19
    go_wp2
    go_ret2
    exact ⟨rfl, Keeps.refl [] w⟩

/-- The answer of Least. -/
def leastA (f t : Int) : Int × Bool := if (0 ≤ f ∧ f < 7) ∧ (0 ≤ t ∧ t < 7) then (((dist f.toNat t.toNat).getD 0 : Nat), (dist f.toNat t.toNat).isSome) else (0, false)
theorem rleast_eq (f t x : Int) (b : Bool) (h : leastA f t = (x, b)) (w : World) :
    Calls Try.prog 19 #[.int .i64 f, .int .i64 t] w fun r w' => r = .returned (.tuple #[.int .i64 x, .bool b]) ∧ Keeps [] w w' := by
  unfold leastA at h
  by_cases hg : (0 ≤ f ∧ f < 7) ∧ (0 ≤ t ∧ t < 7)
  · rw [if_pos hg] at h
    cases h
    obtain ⟨n, rfl⟩ : ∃ n : Nat, f = n := ⟨f.toNat, by omega⟩
    obtain ⟨m, rfl⟩ : ∃ m : Nat, t = m := ⟨t.toNat, by omega⟩
    exact rleast_ok n m (by omega) (by omega) w
  · rw [if_neg hg] at h
    cases h
    exact rleast_bad f t hg w
theorem least_all (f t x : Int) (b : Bool) (h : leastA f t = (x, b)) (w : World) :
    Calls Try.prog 13 #[.int .i64 f, .int .i64 t] w fun r w' => r = .returned (.tuple #[.int .i64 x, .bool b]) ∧ Keeps [] w w' := by
  unfold leastA at h
  by_cases hg : (0 ≤ f ∧ f < 7) ∧ (0 ≤ t ∧ t < 7)
  · rw [if_pos hg] at h
    cases h
    obtain ⟨n, rfl⟩ : ∃ n : Nat, f = n := ⟨f.toNat, by omega⟩
    obtain ⟨m, rfl⟩ : ∃ m : Nat, t = m := ⟨t.toNat, by omega⟩
    exact least_ok n m (by omega) (by omega) w
  · rw [if_neg hg] at h
    cases h
    exact least_bad f t hg w
end Go.Proofs.Ytfgkfhchnnkonaa
