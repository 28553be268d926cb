/- The walk of the search for the states that are reached. -/
import Derived.Test.YtfgkfhchnnkonaaStreamD
import Derived.Sort.LoopGhostIn
namespace Go.Proofs.Ytfgkfhchnnkonaa
open Go.RowKit Go.Shelf
attribute [local go_sem] Oper.semAt_some
attribute [local go_sem ↓] Go.wp_at_zero Go.wp_at_succ

/-- What a state's number and its distance are handed over as. -/
def pairV (x : Nat × Nat) : Array Value := #[.int .i64 (x.1 : Int), .int .i64 (x.2 : Int)]

theorem event_at (j : Nat) (hj : j < 7) : ∃ fn : FuncId, (∀ W2, (Instr.index 47 (.agg evCells) (.int .i64 (j : Int))).run Try.prog W2 = .ok (.func (.func fn) #[] #[]) W2) ∧ (∀ args W, Sem.run Try.prog (callFunc fn args) W = .ok (.enter fn args) W) ∧
    ∀ s : Nat, s ≤ 6 → ∀ w, Calls Try.prog fn #[.int .i64 (s : Int)] w fun r w' => r = .returned (.agg #[.int .i64 (mv s (j : Int)).1, .int .i64 (mv s (j : Int)).2]) ∧ Keeps [] w w' := by
  have hc : j = 0 ∨ j = 1 ∨ j = 2 ∨ j = 3 ∨ j = 4 ∨ j = 5 ∨ j = 6 := by omega
  rcases hc with rfl | rfl | rfl | rfl | rfl | rfl | rfl
  · refine ⟨30, fun W2 => by kernel_rfl, enters rfl rfl rfl, fun s _ w => ?_⟩
    have h : mv s ((0 : Nat) : Int) = (0, 0) := by unfold mv nxt; simp
    rw [h]
    exact none_any s w
  · exact ⟨31, fun W2 => by kernel_rfl, enters rfl rfl rfl, fun s hs w => open_any s _ rfl hs w⟩
  · exact ⟨32, fun W2 => by kernel_rfl, enters rfl rfl rfl, fun s hs w => accept_any s _ rfl hs w⟩
  · exact ⟨33, fun W2 => by kernel_rfl, enters rfl rfl rfl, fun s hs w => refuse_any s _ rfl hs w⟩
  · exact ⟨34, fun W2 => by kernel_rfl, enters rfl rfl rfl, fun s hs w => endIn_any s _ rfl hs w⟩
  · exact ⟨35, fun W2 => by kernel_rfl, enters rfl rfl rfl, fun s hs w => endOut_any s _ rfl hs w⟩
  · exact ⟨36, fun W2 => by kernel_rfl, enters rfl rfl rfl, fun s hs w => reset_any s _ rfl hs w⟩

set_option maxRecDepth 100000 in
set_option maxHeartbeats 1000000 in
theorem reached1_in (n l B0 f : Nat) (hf : f ≤ 6) (J Jx : List (Nat × Nat) → World → Prop) (W : World) (hJ : Low W.heap.size J)
    (hY : ∀ pre x W1, J pre W1 → pre.length < (ordL f).length → YieldAt Fence.wide (n - 1) Try.prog l (pairV x) W1 fun e W' =>
      (e = .returned (.bool true) ∧ J (pre ++ [x]) W' ∧ FarK W.heap.size W1 W') ∨ (e = .returned (.bool false) ∧ Jx (pre ++ [x]) W'))
    (hF : W.cell? ⟨B0, 0, none⟩ = some (.int .i64 (f : Int))) (h0 : J [] W) :
    CallsIn Fence.wide n Try.prog 29 #[.func (.yield l) #[] #[], .pointer (some ⟨B0, 0, none⟩)] W fun e W' => (∃ v, e = .returned v) ∧
      ((∃ ys, ys = ordL f ∧ J ys W') ∨ (∃ pre, pre <+: ordL f ∧ Jx pre W')) := by
  have hmm := fun W => run_makeMap (P := Try.prog) 52 W
  obtain ⟨Wm, hup, hfar, hgrow⟩ := (FarAt.new W).update f 0 hf (by omega) (by omega) rfl
  have hFm : Wm.cell? ⟨B0, 0, none⟩ = some (.int .i64 (f : Int)) := by
    have hlt := World.block_lt_of_cell? W _ hF
    rw [World.cell?_of_block (w := W.alloc (.map #[] 0)) (a := ⟨B0, 0, none⟩) (hgrow.block B0 (by simp at hlt ⊢; omega) (by simp at hlt ⊢; omega)), World.cell?_alloc_lt W _ _ hlt]
    exact hF
  have hup2 : (Instr.mapUpdate 52 (.map (some W.heap.size)) (.int .i64 (f : Int)) (.int .i64 0)).run Try.prog (W.alloc (.map #[] 0)) = .ok () Wm := hup
  have hfar : FarAt Wm W.heap.size 1 (bfs f 0).1 := hfar
  have HFAR := Lib.hid hfar
  have HG := Lib.hid hgrow
  have HJ := Lib.hid hJ
  have HY := Lib.hid hY
  have HJ0 := Lib.hid h0
  have hF1 : (W.alloc (.map #[] 0)).cell? ⟨B0, 0, none⟩ = some (.int .i64 (f : Int)) := by
    rw [World.cell?_alloc_lt W _ _ (World.block_lt_of_cell? W _ hF)]; exact hF
  clear hfar hgrow hJ hY h0 hF
  refine callsIn_of_wp Try.func29 rfl trivial ?_ rfl
  simp only [Try.ntmps29, List.size_toArray, List.length_cons, List.length_nil, Nat.reduceAdd, Nat.reduceSub, Array.replicate_succ, Array.replicate_zero, List.push_toArray, List.append_toArray, List.nil_append, List.cons_append]
  clear hup
  refine wpIn_scope_wide ?_
  gi_wp2
  refine wpIn_label ?_
  gi_wp2
  have hsl0 : Sl (Wm.alloc (.cells #[.int .i64 (f : Int)] 38)) W.heap.size (.slice (some ⟨Wm.heap.size, 0, none⟩) 1 1) [f] := Sl.new _ _ _ (Nat.le_of_lt HFAR.out.lt) _
  have hj0 : J [] (Wm.alloc (.cells #[.int .i64 (f : Int)] 38)) := HJ.out _ _ _ HJ0.out (by
    have h1 : Below W.heap.size W (W.alloc (.map #[] 0)) := (Below.refl _ W).alloc (Nat.le_refl _) _
    have h2 : Below W.heap.size W Wm := h1.grown HG.out (by simp) (fun j e => by cases e; exact Nat.le_refl _)
    exact h2.alloc (Nat.le_of_lt HFAR.out.lt) _)
  have hfa0 : FarAt (Wm.alloc (.cells #[.int .i64 (f : Int)] 38)) W.heap.size 1 (bfs f 0).1 := HFAR.out.same (Below.heap_alloc _ _ _ HFAR.out.lt)
  gi_loopg [4] (ordL f).length (fun g v wr => ∃ k : Nat, g = (ordL f).length - k ∧ k ≤ (ordL f).length ∧ J ((ordL f).take k) wr ∧ Hid (FarAt wr W.heap.size (1 + 7 * k) (bfs f k).1) ∧ Hid (Sl wr W.heap.size v (bfs f k).2))
  case atStart => exact ⟨0, by omega, Nat.zero_le _, hj0, hfa0, hsl0⟩
  case round =>
    obtain ⟨k, rfl, hk, hJs, hFs, hSs⟩ := hrel
    have HJs := Lib.hid hJs
    clear hJs hfa0 hsl0 hj0 hFm hF1 hup2
    by_cases hlt : k < (ordL f).length
    · obtain ⟨s, r, hsr, hord, hs6, hr7, hd7, hnext⟩ := bfs_more f hf k hlt
      obtain ⟨far, hfd⟩ : ∃ far, (bfs f k).1 = far := ⟨_, rfl⟩
      rw [hfd] at hord hd7 hnext hFs
      rw [hsr] at hSs
      obtain ⟨b, off, cap, v', rfl, hcell, hsl, hslrun⟩ := Sl.pop hSs.out
      have hlk := hFs.out.look s hs6
      obtain ⟨d, hdd⟩ : ∃ d, (farOf far s).getD 0 = d := ⟨_, rfl⟩
      rw [hdd] at hlk hord hd7
      have htk : (ordL f).take k ++ [(s, d)] = (ordL f).take (k + 1) := by
        rw [List.take_add_one, hord]; rfl
      have hy0 := yield_one (HY.out ((ordL f).take k) (s, d) wr HJs.out (by rw [List.length_take]; omega))
      rw [htk] at hy0
      obtain ⟨fn, tmps, assign, body, hy, hR⟩ := hy0
      simp only [pairV] at hy
      have hn1 : Fence.wide.depth.isSome = true → 1 ≤ n := by intro h; cases h
      have HS := Lib.hid hsl
      have HNX := Lib.hid hnext
      have HDD := Lib.hid hdd
      have HSR := Lib.hid hsr
      have HFD := Lib.hid hfd
      have HTK := Lib.hid htk
      clear hsl hnext hdd hsr hfd htk hord hSs
      have hpos : 0 < r.length + 1 := by omega
      gi_wp2
      refine ⟨hn1, ?_⟩
      refine hR.mono ?_
      rintro e W3 ⟨g, rfl, hT, hF⟩
      clear hR hy hlk hcell
      cases g with
      | false =>
        have hJx := Lib.hid (hF.out rfl)
        clear hT hF
        gi_wp2
        try rw [Exit.noGoto_normal]
        go_end0
        exact ⟨⟨_, rfl⟩, .inr ⟨(ordL f).take (k + 1), List.take_prefix _ _, hJx.out⟩⟩
      | true =>
        obtain ⟨hJ3, hK3⟩ := hT.out rfl
        have hF3 := hFs.out.same (hK3.2 _ (Nat.le_refl _) hFs.out.lt)
        have hS3 := HS.out.same hK3
        have HJ3 := Lib.hid hJ3
        have HF3 := Lib.hid hF3
        have HS3 := Lib.hid hS3
        clear hT hF hJ3 hK3 hF3 hS3
        gi_wp2_with (fail)
        refine ⟨trivial, hn1, (callsIn_wide.2 (events_any _)).mono ?_⟩
        rintro e w4 ⟨rfl, hk4⟩
        have hJ4 : J ((ordL f).take (k + 1)) w4 := HJ.out _ _ _ HJ3.out (hk4.below (Nat.le_of_lt HF3.out.lt) (by simp))
        have hF4 : FarAt w4 W.heap.size (1 + 7 * k) far := HF3.out.same (hk4.block _ HF3.out.lt (by simp))
        have hS4 : Sl w4 W.heap.size v' r := HS3.out.same ⟨hk4.size, fun j _ hj => hk4.block j hj (by simp)⟩
        have HJ4 := Lib.hid hJ4
        have HF4 := Lib.hid hF4
        have HS4 := Lib.hid hS4
        clear hk4 hJ4 hF4 hS4 HJ3 HF3 HS3
        unfold evVal
        gi_wp2_with (fail)
        gi_loopg [4, 32] 7 (fun g v i wr => ∃ j : Nat, g = 7 - j ∧ j ≤ 7 ∧ i = .int .i64 j ∧ Hid (J ((ordL f).take (k + 1)) wr) ∧ Hid (FarAt wr W.heap.size (1 + 7 * k + j) (exN s (far, r) j).1) ∧ Hid (Sl wr W.heap.size v (exN s (far, r) j).2))
        case atStart => exact ⟨0, by omega, by omega, rfl, HJ4, HF4, HS4⟩
        case round =>
          obtain ⟨j, rfl, hj, rfl, HJ5, HF5, HS5⟩ := hrel
          clear HJ4 HF4 HS4 hFs HS
          by_cases hj7 : j < 7
          · obtain ⟨ev, hidx, hrun, hcall⟩ := event_at j hj7
            unfold evCells at hidx
            have HCALL := Lib.hid (hcall s hs6)
            have hj1 : (j : Int) < 7 := by omega
            have hj0 : 0 ≤ (j : Int) := by omega
            obtain ⟨fj, tj, hst⟩ : ∃ fj tj, exN s (far, r) j = (fj, tj) := ⟨_, _, rfl⟩
            have hsm := small_at f k j hf (by have := ordL_len f hf; omega) (by omega) HSR.out
            rw [HFD.out, hst] at hsm
            have hnx1 : exN s (far, r) (j + 1) = ex1 s (fj, tj) j := by show ex1 s (exN s (far, r) j) j = _; rw [hst]
            rw [hst] at HF5 HS5
            have HX1 := Lib.hid hnx1
            obtain ⟨dj, hdj⟩ : ∃ dj, (farOf fj s).getD 0 = dj := ⟨_, rfl⟩
            rw [hdj] at hsm
            obtain ⟨hsm1, hsm2⟩ := hsm
            have HDJ := Lib.hid hdj
            clear hcall hnx1 hst hdj HNX HDD HSR HFD HTK
            cases hn : nxt s (j : Int) with
            | none =>
              have hmv : mv s (j : Int) = (0, 0) := by simp [mv, hn]
              rw [hmv] at HCALL
              have HE1 : Hid (ex1 s (fj, tj) j = (fj, tj)) := by show ex1 s (fj, tj) j = _; simp [ex1, hn]
              clear hmv hn
              gi_wp2_with (fail)
              refine ⟨trivial, hn1, (callsIn_wide.2 (HCALL.out _)).mono ?_⟩
              rintro e w5 ⟨rfl, hk5⟩
              have hK6 : Keeps [] wr (w5.alloc (.cells #[.int .i64 0, .int .i64 0] 50)) := hk5.alloc _
              have hJ6 : J ((ordL f).take (k + 1)) (w5.alloc (.cells #[.int .i64 0, .int .i64 0] 50)) := HJ.out _ _ _ HJ5.out (hK6.below (Nat.le_of_lt HF5.out.lt) (by simp))
              have hF6 := HF5.out.same (hK6.block _ HF5.out.lt (by simp))
              have hS6 := HS5.out.same (⟨hK6.size, fun j _ hj => hK6.block j hj (by simp)⟩ : FarK W.heap.size _ _)
              obtain ⟨q, qb, hlk⟩ : ∃ q qb, (Instr.lookup 52 (.map (some W.heap.size)) (.int .i64 0) true).run Try.prog (w5.alloc (.cells #[.int .i64 0, .int .i64 0] 50)) = .ok (.tuple #[.int .i64 q, .bool qb]) (w5.alloc (.cells #[.int .i64 0, .int .i64 0] 50)) := ⟨_, _, hF6.look_ok 0 (by omega)⟩
              have HJ6 := Lib.hid hJ6
              have HF6 := Lib.hid hF6
              have HS6 := Lib.hid hS6
              clear hK6 hJ6 hF6 hS6 hk5
              gi_wp2_with (fail)
              gi_roundg (7 - (j + 1))
              case rel => exact ⟨j + 1, rfl, by omega, by go_num, HJ6, by rw [HX1.out, HE1.out]; exact HF6.out.mono (m := 1 + 7 * k + (j + 1)) (by omega), by rw [HX1.out, HE1.out]; exact HS6⟩
              case measure => omega
            | some t =>
              have hmv : mv s (j : Int) = ((s : Int), (t : Int)) := by simp [mv, hn]
              rw [hmv] at HCALL
              have ht6 := nxt_lt hn
              obtain ⟨ht1, ht2⟩ := ht6
              have ht0 : ((t : Int) == 0) = false := by simp; omega
              cases hft : farOf fj t with
              | some d0 =>
                have HE1 : Hid (ex1 s (fj, tj) j = (fj, tj)) := by show ex1 s (fj, tj) j = _; simp [ex1, hn, hft]
                have HFT := Lib.hid hft
                clear hmv hn hft
                gi_wp2_with (fail)
                refine ⟨trivial, hn1, (callsIn_wide.2 (HCALL.out _)).mono ?_⟩
                rintro e w5 ⟨rfl, hk5⟩
                have hK6 : Keeps [] wr (w5.alloc (.cells #[.int .i64 (s : Int), .int .i64 (t : Int)] 50)) := hk5.alloc _
                have hJ6 : J ((ordL f).take (k + 1)) (w5.alloc (.cells #[.int .i64 (s : Int), .int .i64 (t : Int)] 50)) := HJ.out _ _ _ HJ5.out (hK6.below (Nat.le_of_lt HF5.out.lt) (by simp))
                have hF6 := HF5.out.same (hK6.block _ HF5.out.lt (by simp))
                have hS6 := HS5.out.same (⟨hK6.size, fun j _ hj => hK6.block j hj (by simp)⟩ : FarK W.heap.size _ _)
                have hlk := hF6.look_ok t ht1
                rw [HFT.out] at hlk
                dsimp only [Option.isSome] at hlk
                have HJ6 := Lib.hid hJ6
                have HF6 := Lib.hid hF6
                have HS6 := Lib.hid hS6
                clear hK6 hJ6 hF6 hS6 hk5
                gi_wp2_with (fail)
                gi_roundg (7 - (j + 1))
                case rel => exact ⟨j + 1, rfl, by omega, by go_num, HJ6, by rw [HX1.out, HE1.out]; exact HF6.out.mono (m := 1 + 7 * k + (j + 1)) (by omega), by rw [HX1.out, HE1.out]; exact HS6⟩
                case measure => omega
              | none =>
                have HE1 : Hid (ex1 s (fj, tj) j = (fj ++ [(t, dj + 1)], tj ++ [t])) := by show ex1 s (fj, tj) j = _; simp [ex1, hn, hft, HDJ.out]
                have HFT := Lib.hid hft
                clear hmv hn hft
                obtain ⟨b3, o3, c3, hv3, _⟩ := HS5.out
                subst hv3
                gi_wp2_with (fail)
                refine ⟨trivial, hn1, (callsIn_wide.2 (HCALL.out _)).mono ?_⟩
                rintro e w5 ⟨rfl, hk5⟩
                have hK6 : Keeps [] wr (w5.alloc (.cells #[.int .i64 (s : Int), .int .i64 (t : Int)] 50)) := hk5.alloc _
                have hF6 := HF5.out.same (hK6.block _ HF5.out.lt (by simp))
                have hS6 := HS5.out.same (⟨hK6.size, fun j _ hj => hK6.block j hj (by simp)⟩ : FarK W.heap.size _ _)
                have hlk := hF6.look_ok t ht1
                have hlk2 := hF6.look s hs6
                rw [HFT.out] at hlk
                rw [HDJ.out] at hlk2
                dsimp only [Option.isSome] at hlk
                obtain ⟨w7, hup, hF7, hg7⟩ := hF6.update t (dj + 1) ht1 (by omega) (by have := ordL_len f hf; omega) HFT.out
                rw [Int.natCast_add, Int.natCast_one] at hup
                have hm7 : w7.cell? ⟨w5.heap.size, 1, none⟩ = some (.int .i64 (t : Int)) := by
                  have hlt5 := HF5.out.lt
                  have hsz5 := hk5.size
                  rw [World.cell?_of_block (w := w5.alloc (.cells #[.int .i64 (s : Int), .int .i64 (t : Int)] 50)) (a := ⟨w5.heap.size, 1, none⟩) (hg7.block w5.heap.size (by simp) (by simp; omega))]
                  exact (Blk.new w5 50 #[.int .i64 (s : Int), .int .i64 (t : Int)]).cell 1
                have hF8 : FarAt (w7.alloc (.cells #[.int .i64 (t : Int)] 38)) W.heap.size (1 + 7 * k + j + 1) (fj ++ [(t, dj + 1)]) := hF7.same (Below.heap_alloc _ _ _ hF7.lt)
                have hS7 : Sl w7 W.heap.size (.slice (some ⟨b3, o3, none⟩) tj.length c3) tj := by
                  obtain ⟨b2, o2, c2, hv2, p1, p2, p3, ⟨cs, ct, z, p4⟩, p5, p6⟩ := hS6
                  rw [hv2]
                  have hne : b2 ≠ W.heap.size := by
                    rintro rfl
                    obtain ⟨es, cl, hm⟩ := hF6.isMap
                    rw [p4] at hm; cases hm
                  have hb := hg7.block b2 p2 (by simpa using hne)
                  exact ⟨b2, o2, c2, rfl, p1, Nat.lt_of_lt_of_le p2 hg7.size, p3, ⟨cs, ct, z, hb.trans p4⟩, fun i hi => by
                    rw [World.cell?_of_block (a := ⟨b2, o2 + i, none⟩) hb, World.frozen?_of_block (a := ⟨b2, o2 + i, none⟩) hb]; exact p5 i hi, fun i hi => by
                    rw [World.cell?_of_block (a := ⟨b2, o2 + i, none⟩) hb]; exact p6 i hi⟩
                have hS8 : Sl (w7.alloc (.cells #[.int .i64 (t : Int)] 38)) W.heap.size (.slice (some ⟨b3, o3, none⟩) tj.length c3) tj := hS7.same (⟨by simp, fun i _ hi => Below.heap_alloc _ _ _ hi⟩ : FarK W.heap.size _ _)
                obtain ⟨v9, w9, happ, hS9, hB9, hO9⟩ := hS8.push (by omega) (Nat.le_of_lt hF8.lt) w7.heap.size t ((Blk.new w7 38 #[.int .i64 (t : Int)]).cell 0) 53
                have hJ9 : J ((ordL f).take (k + 1)) w9 := HJ.out _ _ _ HJ5.out ((((hK6.below (Nat.le_of_lt HF5.out.lt) (by simp)).grown hg7 (Nat.le_of_lt hF6.lt) (fun j e => by cases e; exact Nat.le_refl _)).alloc (Nat.le_of_lt hF7.lt) _).trans hB9)
                have hF9 : FarAt w9 W.heap.size (1 + 7 * k + j + 1) (fj ++ [(t, dj + 1)]) := by
                  obtain ⟨es, cl, hm⟩ := hF8.isMap
                  exact hF8.same ((hO9 _ _ hm rfl).trans hm.symm)
                have HJ6 := Lib.hid hJ9
                have HF6 := Lib.hid hF9
                have HS6 := Lib.hid hS9
                clear hK6 hF6 hS6 hk5 hJ9 hF9 hS9 hB9 hO9 hS8 hS7 hF8 hF7 hg7
                gi_wp2_with (gi_at_builtin; refine wpListIn_append_run _ rfl _ _ 53 rfl rfl rfl happ ?_)
                gi_roundg (7 - (j + 1))
                case rel => exact ⟨j + 1, rfl, by omega, by go_num, HJ6, by rw [HX1.out, HE1.out]; exact HF6, by rw [HX1.out, HE1.out]; exact HS6⟩
                case measure => omega
          · obtain rfl : j = 7 := by omega
            have hJ6 := HJ5.out
            rw [← HNX.out] at HF5 HS5
            have HF6 : Hid (FarAt wr W.heap.size (1 + 7 * (k + 1)) (bfs f (k + 1)).1) := by
              show FarAt _ _ _ _
              have := HF5.out
              rwa [show 1 + 7 * k + 7 = 1 + 7 * (k + 1) by omega] at this
            have HS6 := HS5
            clear HF5 HS5 HJ5
            gi_wp2
            gi_roundg ((ordL f).length - (k + 1))
            case rel => exact ⟨k + 1, rfl, by omega, hJ6, HF6, HS6⟩
            case measure => omega
    · obtain rfl : k = (ordL f).length := by omega
      have hdone := bfs_done f hf
      rw [hdone] at hSs
      obtain ⟨b3, o3, c3, hv3, _⟩ := hSs.out
      subst hv3
      clear hdone hFs hSs hfar HFAR HG
      gi_wp2
      try rw [Exit.noGoto_normal]
      go_end0
      refine ⟨⟨_, rfl⟩, .inl ⟨_, rfl, ?_⟩⟩
      have := HJs.out
      rwa [List.take_length] at this

theorem reached_stops (n B0 f : Nat) (hf : f ≤ 6) (w : World) (hF : w.cell? ⟨B0, 0, none⟩ = some (.int .i64 (f : Int))) :
    SeqB Fence.wide n Try.prog 29 #[.pointer (some ⟨B0, 0, none⟩)] pairV (fun ys => ys = ordL f) (fun pre => pre <+: ordL f) (ordL f).length w := fun l J Jx W hW hJ _ hY h0 =>
  reached1_in n l B0 f hf J Jx W hJ hY ((World.cell?_of_block (a := ⟨B0, 0, none⟩) (hW.block B0 (World.block_lt_of_cell? w _ hF))).trans hF) h0

theorem reached_any (f : Int) (w : World) :
    Calls Try.prog 26 #[.int .i64 f] w fun e w' => e = .returned (.func (.func 29) #[] #[.pointer (some ⟨w.heap.size, 0, none⟩)]) ∧ w.alloc (.cells #[.int .i64 f] 38) = w' := by
  go_enter Try.func26, Try.ntmps26
  go_wp2
  go_ret
  exact ⟨rfl, rfl⟩
end Go.Proofs.Ytfgkfhchnnkonaa
