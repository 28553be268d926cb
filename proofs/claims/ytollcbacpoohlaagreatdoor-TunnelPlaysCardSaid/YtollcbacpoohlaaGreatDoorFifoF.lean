/- The walk of the queue's Peek. -/
import Derived.Test.YtollcbacpoohlaaGreatDoorFifoE
import Derived.Laws.CopyOwn
import Derived.Laws.BytesString
import Derived.Laws.IdiomStrings
import Derived.Laws.IdiomCopy
namespace Go.Proofs.YtollcbacpoohlaaGreatDoor
open Go.RowKit Go.Shelf
attribute [local go_sem] Oper.semAt_some

theorem first_stops (n B0 b bb cap fr : Nat) (A : Array Value) (q : List UInt8) (m : Int) (w : World) (hF : FirstAt w B0 b bb cap fr A q m) :
    SeqStopsK Fence.wide n Tryz.prog 107 #[.pointer (some ⟨B0 + 1, 0, none⟩), .pointer (some ⟨B0, 0, none⟩), .pointer (some ⟨B0 + 2, 0, none⟩)] (fun x : UInt8 => #[Value.int .u8 (x.toNat : Int)]) (SameOn [B0, B0 + 1, B0 + 2, b, bb]) (fun ys => ys = q.take m.toNat) (fun pre => pre <+: q.take m.toNat) (q.take m.toNat).length w := fun l J Jx W hW hJ _ hY h0 =>
  first1_in n l B0 b bb cap fr A q m J Jx (fun pre W1 k hs => hJ pre W1 (W1.drewN k) none hs ⟨rfl, rfl, rfl, Nat.le_refl _, fun _ _ _ => rfl⟩ (fun r e => by cases e)) hY W
    (hF.same (fun k hk => by
      refine hW.block k ?_
      simp only [List.mem_cons, List.not_mem_nil, or_false] at hk
      rcases hk with rfl | rfl | rfl | rfl | rfl
      · exact hF.f.lt
      · exact hF.n.lt
      · exact hF.at_.lt
      · exact hF.fi.head.lt
      · exact hF.fi.ring.lt)) h0

theorem peek_empty (b bb cap : Nat) (m : Int) (w : World) (h : Fi w b bb cap []) :
    Calls Tryz.prog 87 #[.pointer (some ⟨b, 0, none⟩), .int .i64 m] w fun e w' => e = .returned (.string ⟨#[]⟩) ∧ Keeps [] w w' := by
  have hz : ((([] : List UInt8).length : Int) == 0) = true := rfl
  have hk : Keeps [] w (w.alloc (.cells #[.slice none 0 0] 107)) := (Keeps.refl _ w).alloc _
  have hf : Fi (w.alloc (.cells #[.slice none 0 0] 107)) b bb cap [] := h.keeps hk (by simp) (by simp)
  have HF := Lib.hid hf
  have HK := Lib.hid hk
  clear h hf hk
  go_enter Tryz.func87, Tryz.ntmps87
  go_wp2_with (go_at_call 68; refine (len_any b bb cap [] _ HF.out).mono ?_; rintro e w' ⟨rfl, rfl⟩)
  go_ret
  exact ⟨rfl, HK.out⟩

theorem peek_nil (m : Int) (w : World) :
    Calls Tryz.prog 87 #[.pointer none, .int .i64 m] w fun e w' => e = .returned (.string ⟨#[]⟩) ∧ Keeps [] w w' := by
  go_enter Tryz.func87, Tryz.ntmps87
  go_wp2_with (go_at_call 68; refine (len_nil _).mono ?_; rintro e w' ⟨rfl, rfl⟩)
  go_ret
  exact ⟨rfl, (Keeps.refl _ w).alloc _⟩

set_option maxRecDepth 100000 in
set_option maxHeartbeats 2000000 in
theorem peek_some (b bb cap : Nat) (q : List UInt8) (m : Int) (w : World) (h : Fi w b bb cap q) (hq : 0 < q.length) :
    Calls Tryz.prog 87 #[.pointer (some ⟨b, 0, none⟩), .int .i64 m] w fun e w' => e = .returned (.string ⟨(q.take m.toNat).toArray⟩) ∧ Keeps [] w w' := by
  obtain ⟨L, hL⟩ : ∃ L, q.take m.toNat = L := ⟨_, rfl⟩
  rw [hL]
  have hLl : L.length ≤ q.length := by rw [← hL]; exact List.length_take_le' _ _
  refine (callsIn_wide (n := 9)).1 ?_
  obtain ⟨i0, hi, hz0, hz1, hz2⟩ := info_parts tu8_info
  have hqb : ((q.length : Int) == 0) = false := by simp; intro h; simp [h] at hq
  have hk0 : Keeps [] w (w.alloc (.cells #[.slice none 0 0] 107)) := (Keeps.refl _ w).alloc _
  have hf : Fi (w.alloc (.cells #[.slice none 0 0] 107)) b bb cap q := h.keeps hk0 (by simp) (by simp)
  have HF := Lib.hid hf
  have HK := Lib.hid hk0
  clear hf hk0
  refine callsIn_of_wp_marks Tryz.func87 rfl trivial ?_ rfl
  simp only [Tryz.ntmps87, List.size_toArray, List.length_cons, List.length_nil, Nat.reduceAdd, Nat.reduceSub, Array.replicate_succ, Array.replicate_zero, List.push_toArray, List.append_toArray, List.nil_append, List.cons_append]
  gi_wp2_with (first | (refine ⟨trivial, ?_⟩; gi_at_call 68; refine (callsIn_wide.2 (len_any b bb cap q _ HF.out)).mono ?_; rintro e w' ⟨rfl, rfl⟩) | (refine ⟨trivial, ?_⟩; gi_at_call 101; refine (callsIn_wide.2 (first_any _ _ _)).mono ?_; rintro e w' ⟨rfl, rfl⟩))
  obtain ⟨W0, hW0⟩ : ∃ W0, ((((w.alloc (.cells #[.slice none 0 0] 107)).alloc (.cells #[.pointer (some ⟨b, 0, none⟩)] 80)).alloc (.cells #[.int .i64 m] 3)).alloc (.cells #[.func (.func 89) #[.pointer (some ⟨b, 0, none⟩)] #[]] 83)) = W0 := ⟨_, rfl⟩
  have hs0 : W0.heap.size = w.heap.size + 4 := by rw [← hW0]; simp
  have hB0 : Below w.heap.size w W0 := by
    rw [← hW0]; exact ((((Below.refl _ w).alloc (Nat.le_refl _) _).alloc (by simp) _).alloc (by simp; omega) _).alloc (by simp; omega) _
  have hbox : Boxed W0 w.heap.size 107 (.slice none 0 0) := by
    rw [← hW0]; exact (((Boxed.new w 107 _).alloc _).alloc _).alloc _
  obtain ⟨fr, A, hfi⟩ := h
  have hFA : FirstAt W0 (w.heap.size + 1) b bb cap fr A q m := by
    refine ⟨?_, ?_, ?_, hfi.keeps (Keeps.of_below hB0 []) (by simp) (by simp)⟩
    · rw [← hW0]; have := (Blk.new (w.alloc (.cells #[.slice none 0 0] 107)) 80 #[.pointer (some ⟨b, 0, none⟩)]); rw [World.size_alloc] at this; exact (this.alloc _).alloc _
    · rw [← hW0]; have := (Blk.new ((w.alloc (.cells #[.slice none 0 0] 107)).alloc (.cells #[.pointer (some ⟨b, 0, none⟩)] 80)) 3 #[.int .i64 m]); simp only [World.size_alloc] at this; exact this.alloc _
    · rw [← hW0]; have := (Blk.new (((w.alloc (.cells #[.slice none 0 0] 107)).alloc (.cells #[.pointer (some ⟨b, 0, none⟩)] 80)).alloc (.cells #[.int .i64 m] 3)) 83 #[.func (.func 89) #[.pointer (some ⟨b, 0, none⟩)] #[]]); simp only [World.size_alloc] at this; exact this
  have hbl : b < w.heap.size := hfi.head.lt
  have hbbl : bb < w.heap.size := hfi.ring.lt
  have hql : q.length ≤ 4096 := Nat.le_trans hfi.len hfi.le
  rw [hW0]
  have hst := first_stops 8 (w.heap.size + 1) b bb cap fr A q m W0 hFA
  rw [hL] at hst
  clear HF HK hW0 hfi hL
  refine wpIn_rangeFunc_ownG rfl (by omega) (gf := 107) (lb := #[.pointer (some ⟨w.heap.size + 1 + 1, 0, none⟩), .pointer (some ⟨w.heap.size + 1, 0, none⟩), .pointer (some ⟨w.heap.size + 1 + 2, 0, none⟩)]) rfl trivial (enters_of Tryz.func107 (by kernel_rfl) rfl)
    hst SameOn.trans (SameOn.put (N := W0.heap.size) (by intro k hk; simp at hk; omega)) (Below.refl _ _) (fun _ => rfl)
    (fun (pre : List UInt8) W => (∃ v, Boxed W w.heap.size 107 v ∧ W.ownsRow W0.heap.size 5 1 v pre.length (pre.map fun x : UInt8 => Value.int .u8 (x.toNat : Int)) ∧ True) ∧ Below w.heap.size w W ∧ W0.heap.size ≤ W.heap.size)
    (fun _ _ _ => False)
    (OwnFrom.and (Own.from (holdsRow_own W0.heap.size w.heap.size 107 5 1 (fun pre : List UInt8 => pre.length) (fun pre : List UInt8 => pre.map fun x : UInt8 => Value.int .u8 (x.toNat : Int)) (fun _ _ => True)) _) (OwnFrom.and (ownFrom_below (Nat.le_refl _) (by omega)) (fun _ _ _ _ hs hg _ => Nat.le_trans hs hg.size)))
    (fun _ _ _ _ _ hs _ _ => hs)
    ⟨⟨_, hbox, World.ownsRow_nil _ _ _ _, trivial⟩, hB0, Nat.le_refl _⟩
    (fun x => { tmps := #[.pointer (some ⟨b, 0, none⟩), .int .i64 m, undef, undef, .string ⟨#[]⟩, .pointer (some ⟨w.heap.size, 0, none⟩), .int .u8 (x.toNat : Int), undef, .pointer (some ⟨b, 0, none⟩), .int .i64 q.length, .bool false, .pointer (some ⟨b, 0, none⟩), .int .i64 m, .func (.func 107) #[] #[.pointer (some ⟨w.heap.size + 1 + 1, 0, none⟩), .pointer (some ⟨w.heap.size + 1, 0, none⟩), .pointer (some ⟨w.heap.size + 1 + 2, 0, none⟩)], .int .u8 (x.toNat : Int), undef, undef, undef, undef, undef, undef, undef, undef, undef, undef, undef, undef, undef, undef, undef, undef, undef], defers := [] }) ?assign ?body ?done ?stop
  case assign =>
    intro l x W K hK
    gi_wp2
    exact hK
  case body =>
    rintro l pre x W ⟨⟨v, hv, hrow, _⟩, hB, hsz⟩ hlt
    have hc := hv.cell
    have hpl : pre.length < 4096 := by omega
    have hlt' := hv.lt
    gi_wp2_with (gi_at_builtin; refine wpListIn_append_own _ rfl _ _ 107 rfl W0.heap.size 5 i0 (.int .u8 0) 1 1 Tryz.underlying107 hi hz0 hz1 hz2 rfl (by decide) _ _ _ rfl (hrow.alloc _) ⟨W.heap.size, 0, none⟩ 1 1 [.int .u8 (x.toNat : Int)] rfl rfl (cell_one_new _ _ _) (by simp [Value.oneCell']) (by unfold maxLen; omega) (by omega) (by simp; omega) ?_; intro v' w1 hown' hgrow _; obtain ⟨g', cap', rfl⟩ := ownsRow_succ hown'; obtain ⟨hv1, hv2, hr2, hk2, hb2, hs2⟩ := appended_far hv hrow hsz (by omega) hown' hgrow; have hc1 := hv1.cell; have hf1 := hv1.frozen)
    exact ⟨hk2.from _, fun k hk => hs2 k (by simp at hk; omega) (by simp at hk; omega), ⟨⟨_, hv2, by simpa using hr2, trivial⟩, hB.trans hb2, Nat.le_trans hsz hk2.size⟩⟩
  case done =>
    rintro D ys W hD hys ⟨⟨v, hv, hrow, _⟩, hB, hsz⟩ hK
    obtain rfl : L = ys := hys.symm
    have hc := hv.cell
    have hlt := hv.lt
    have hDl : D < W.heap.size := (Array.getElem?_eq_some_iff.1 hK).1
    rcases hrow.2 with ⟨rfl, hl0⟩ | ⟨g, c, cur, rfl, hbg, hg, hnc, hcm, hcs, htk⟩
    · obtain rfl : L = [] := List.eq_nil_of_length_eq_zero hl0
      have hmk : ∀ W' : World, (Instr.makeSlice 107 (.int .i64 0) (.int .i64 0)).run Tryz.prog W' = .ok (.slice (some ⟨W'.heap.size, 0, none⟩) 0 0) (W'.alloc (.cells (madeCells #[.int .u8 0] 0) 5)) := fun W' => by
        have := run_make_rowN (P := Tryz.prog) 107 5 i0 _ Tryz.underlying107 hi hz0 .i64 .i64 0 0 (Nat.le_refl _) (by omega) (by omega) W'
        rw [hz1] at this
        simpa [Value.cells] using this
      have hcp := fun ty => run_copy_none (P := Tryz.prog) (W.alloc (.cells (madeCells #[.int .u8 0] 0) 5)) 107 107 ty 5 (some ⟨W.heap.size, 0, none⟩) none 0 0 0 0 Tryz.underlying107 (by rw [hi]; simp [hz1]) rfl
      have hcv : (convert 107 9 (.slice (some ⟨W.heap.size, 0, none⟩) 0 0)).run Tryz.prog (W.alloc (.cells (madeCells #[.int .u8 0] 0) 5)) = .ok (.string ⟨#[]⟩) (W.alloc (.cells (madeCells #[.int .u8 0] 0) 5)) := run_convert_bytes_back (P := Tryz.prog) (W.alloc (.cells (madeCells #[.int .u8 0] 0) 5)) 107 9 5 ⟨W.heap.size, 0, none⟩ 0 [] Tryz.underlying107 Tryz.underlying5 Tryz.underlying9 (fun j hj => by simp at hj)
      have hB1 : Below w.heap.size w (W.alloc (.cells (madeCells #[.int .u8 0] 0) 5)) := hB.alloc (by omega) _
      have hK1 : (W.alloc (.cells (madeCells #[.int .u8 0] 0) 5)).heap[D]? = some (.deferred (some [])) := (Below.heap_alloc _ _ _ hDl).trans hK
      clear hrow hi hz0 hz1 hz2 hFA hbox hB0 hl0 hLl hv hys
      clear hst
      gi_wp2
      refine ⟨by simp, .inl ⟨_, _, rfl, run_takeDeferred hK1, ?_⟩⟩
      exact ⟨_, results_tmp rfl _ _ _, rfl, Keeps.of_below (hB1.trans (belowK_b (n₀ := w.heap.size) (w := w) (Nat.le_refl _) _ D _ _ (by omega) hK1 rfl rfl)) []⟩
    · obtain ⟨k, hk⟩ : ∃ k, L.length = k := ⟨_, rfl⟩
      rw [hk] at hc hnc htk hv hrow hLl
      have hmk : ∀ W' : World, (Instr.makeSlice 107 (.int .i64 (k : Int)) (.int .i64 (k : Int))).run Tryz.prog W' = .ok (.slice (some ⟨W'.heap.size, 0, none⟩) k k) (W'.alloc (.cells (madeCells #[.int .u8 0] k) 5)) := fun W' => by
        have := run_make_rowN (P := Tryz.prog) 107 5 i0 _ Tryz.underlying107 hi hz0 .i64 .i64 k k (Nat.le_refl _) (by rw [hz2]; omega) (by omega) W'
        rw [hz1] at this
        simpa [Value.cells] using this
      obtain ⟨cs, hcsd⟩ : ∃ cs, cs = L.map (fun x : UInt8 => Value.int .u8 (x.toNat : Int)) := ⟨_, rfl⟩
      have hcl : cs.length = k := by rw [hcsd, List.length_map, hk]
      have hcu : ∀ j v, cs[j]? = some v → cur[j]? = some v := fun j v hj => by
        rw [hcsd, ← htk, Nat.mul_one] at hj
        rw [List.getElem?_take] at hj
        split at hj
        · simpa using hj
        · cases hj
      have hsrc : ∀ j v, cs[j]? = some v → (W.alloc (.cells (madeCells #[.int .u8 0] k) 5)).cell? ((⟨g, 0, none⟩ : Addr).add j) = some v := fun j v hj => by
        have : Blk W g 5 cur := hg
        rw [show ((⟨g, 0, none⟩ : Addr).add j) = ⟨g, j, none⟩ by unfold Addr.add; split <;> simp_all, (this.alloc _).cell]
        exact hcu j v hj
      have hnew : Blk (W.alloc (.cells (madeCells #[.int .u8 0] k) 5)) W.heap.size 5 (madeCells #[.int .u8 0] k) := Blk.new W 5 _
      have hone : ∀ v ∈ cs, v.oneCell' = true := by rw [hcsd]; intro v hv; obtain ⟨x, _, rfl⟩ := List.mem_map.1 hv; rfl
      have hcp := fun ty => run_copy_cells (P := Tryz.prog) (W.alloc (.cells (madeCells #[.int .u8 0] k) 5)) 107 107 ty 5 W.heap.size 0 k k ⟨g, 0, none⟩ k k cs Tryz.underlying107 (by rw [hi]; simp [hz1]) (by rw [hcl]; exact (Nat.min_self k).symm) hsrc
        (fun j hj => by rw [Nat.zero_add, hnew.cell, Array.getElem?_eq_getElem (by rw [size_madeCells]; omega)]; rfl) (fun j hj => by rw [hnew.frozen]) hone
      rw [hcl] at hcp
      obtain ⟨W2, hW2⟩ : ∃ W2, (W.alloc (.cells (madeCells #[.int .u8 0] k) 5)).setCells W.heap.size 0 cs = W2 := ⟨_, rfl⟩
      rw [hW2] at hcp
      have hKW : Keeps [] W W2 := by rw [← hW2]; exact Keeps.setCells (.inr (Nat.le_refl _)) _ _ ((Keeps.refl [] W).alloc _)
      have hB1 : Below w.heap.size w W2 := hB.trans (hKW.below (by omega) (by simp))
      have hK1 : W2.heap[D]? = some (.deferred (some [])) := (hKW.block D hDl (by simp)).trans hK
      have hcv : (convert 107 9 (.slice (some ⟨W.heap.size, 0, none⟩) k k)).run Tryz.prog W2 = .ok (.string ⟨L.toArray⟩) W2 := by
        have := run_convert_bytes_back (P := Tryz.prog) W2 107 9 5 ⟨W.heap.size, 0, none⟩ k L Tryz.underlying107 Tryz.underlying5 Tryz.underlying9 (fun j hj => by
          rw [← hW2, show ((⟨W.heap.size, 0, none⟩ : Addr).add j) = ⟨W.heap.size, 0 + j, none⟩ by unfold Addr.add; split <;> simp_all]
          rw [World.cell?_setCells_in W.heap.size cs 0 _ (fun i hi => by rw [Nat.zero_add, hnew.cell, Array.getElem?_eq_getElem (by rw [size_madeCells]; omega)]; rfl) j (by omega)]
          subst hcsd; simp)
        rw [hk] at this; exact this
      have HB := Lib.hid hB1
      have HKK := Lib.hid hK1
      clear hrow hi hz0 hz1 hz2 hFA hbox hB0 hv hys hst hcu hsrc hnew hone hcsd hcl hW2 hB1 hK1 htk hcs hg hk
      gi_wp2
      refine ⟨by simp, .inl ⟨_, _, rfl, run_takeDeferred HKK.out, ?_⟩⟩
      exact ⟨_, results_tmp rfl _ _ _, rfl, Keeps.of_below (HB.out.trans (belowK_b (n₀ := w.heap.size) (w := w) (Nat.le_refl _) _ D _ _ (by omega) HKK.out rfl rfl)) []⟩
  case stop =>
    rintro D c pre W _ _ h _
    exact h.elim
end Go.Proofs.YtollcbacpoohlaaGreatDoor
