/- The walk of Pin: a pool that is right. -/
import Derived.Test.YtbcppmcjbcnlbaaDoorSnapL
import Derived.Deep.DeepCutAuto
namespace Go.Proofs.YtbcppmcjbcnlbaaDoor
open Go.RowKit Go.Shelf
attribute [local go_sem ↓] Go.wp_at_zero Go.wp_at_succ

theorem filter_len_le {α : Type} (p : α → Bool) (l : List α) : (l.filter p).length ≤ l.length := List.length_filter_le p l

theorem PoolV.keepsS {S : List Nat} {w w' : World} {a : Option Addr} {c : Nat} {V : List SV} {p : Po} (h : PoolV w a c V p) (hk : Keeps S w w') (hS : ∀ k ∈ S, ∃ cs, Blk w k 24 cs ∧ 24 ≠ 9 ∧ 24 ≠ 39) : PoolV w' a c V p := by
  have key : ∀ k ∈ S, ∀ (cs : Array Value) (t : TypeId) (fz : Nat × Nat), w.heap[k]? = some (Obj.cells cs t fz) → t = 24 := fun k hk cs t fz h => by
    obtain ⟨cs', hb, _⟩ := hS k hk
    have hb' : w.heap[k]? = some (Obj.cells cs' 24 (0, 0)) := hb
    rw [hb'] at h
    injection h with h
    injection h with _ h3 _
    exact h3.symm
  exact ⟨h.le, h.small, h.row.keepsS hk (fun k hm cs fz hb => by
    obtain ⟨_, _, _, hne⟩ := hS k hm
    exact hne (key k hm cs _ fz hb).symm), h.mt.keepsS hk (fun k hm cs fz hb => by
    obtain ⟨_, _, hne, _⟩ := hS k hm
    exact hne (key k hm cs _ fz hb).symm)⟩
/-- What Pin's last append leaves. -/
theorem pin_fin {w A A9 : World} {B : Nat} {v9 : Value} {F2 : List SV} {L : List Sn} {x now : Int} {a5 : Option Addr} {c5 m : Nat} {xs : List ByteArray} {a : Option Addr} {n c : Nat}
    (hs : SRow A9 B v9 (F2 ++ [⟨x, a5, m, c5, now⟩])) (hk : StrK B A A9) (hM : Mt A F2 L) (hS : StrsV A a5 c5 xs) (hm : xs.length = m) (hl : F2.length ≤ 1000) (hw : Keeps [] w A)
    (h0 : Blk A w.heap.size 24 #[.slice a n c, .int .i64 x]) (h2 : Blk A (w.heap.size + 1 + 1) 24 #[.slice none 0 0, .int .i64 0]) (hz : w.heap.size + 1 + 1 < B) (_ : B ≤ A.heap.size) (hfv : ∀ z ∈ F2, FrV w.heap.size z) (hf5 : Fr w.heap.size a5 m) :
    ∃ a9 k9 c9 V9, v9 = .slice a9 k9 c9 ∧ Hid (V9.length = k9) ∧ Hid (PoolV A9 a9 c9 V9 ⟨L ++ [⟨x, xs, now⟩], x + 1⟩) ∧ Hid (Keeps [] w A9) ∧ Hid (Blk A9 w.heap.size 24 #[.slice a n c, .int .i64 x]) ∧ Hid (Blk A9 (w.heap.size + 1 + 1) 24 #[.slice none 0 0, .int .i64 0]) ∧ Hid (∀ z ∈ V9, FrV w.heap.size z) := by
  obtain ⟨a9, c9, rfl, hc9, hr9⟩ := hs.row
  refine ⟨a9, _, c9, _, rfl, Lib.hid rfl, Lib.hid ⟨hc9, by rw [List.length_append, List.length_singleton]; omega, hr9, ?_⟩, Lib.hid (Keeps.of_below ((hw.below (Nat.le_refl _) (by simp)).trans (hk.low.mono (by omega))) []), Lib.hid ((hk.low.block _ (by omega)).trans h0), Lib.hid ((hk.low.block _ hz).trans h2), Lib.hid (fun z hzz => by
    rcases List.mem_append.1 hzz with hzz | hzz
    · exact hfv z hzz
    · obtain rfl := List.mem_singleton.1 hzz
      exact hf5)⟩
  exact (hM.strK hk).app ⟨⟨rfl, rfl, hm.symm, hS.strK hk⟩, trivial⟩

set_option maxRecDepth 100000 in
set_option maxHeartbeats 8000000 in
theorem pin_okF (a : Option Addr) (c : Nat) (V : List SV) (p : Po) (n : Nat) (hn : V.length = n) (ia : Option Addr) (ic m : Nat) (xs : List ByteArray) (hm : xs.length = m) (now : Int) (w : World) (hP : PoolV w a c V p) (hI : StrsV w ia ic xs) (e : Nat → Addr) (he : Env w e)
    (hy : checkB p now = true) (hz : itemsB xs = true) (hx : p.next < 1000000000000) :
    Calls Tryd.prog 12 #[.agg #[.slice a n c, .int .i64 p.next], .slice ia m ic, .int .i64 now] w (PinRF w ⟨pinL p.l now ++ [⟨p.next, xs, now⟩], p.next + 1⟩ p.next 0) := by
  have hsml := checkB_small hy
  obtain ⟨htk, hnow, hnow0⟩ := check_ticks hy
  obtain ⟨x, hxx⟩ : ∃ x, p.next = x := ⟨_, rfl⟩
  have hn3 : n ≤ 3 := by rw [← hn, hP.mt.len]; exact hsml.1
  have hx1 : 1 ≤ x := by rw [← hxx]; exact hsml.2.1
  have hcc := fun W (hk : Keeps [] w W) => check_any a c V p n hn now W (hP.keeps hk) e (he.keep hk) true hy
  have hci := fun W (hk : Keeps [] w W) => areItems_any ia ic xs true hz W (hI.at_.keeps hk) hI.small hI.size
  have hco := fun W (hk : Keeps [] w W) => own_fr a c V p.l n hn (by omega) W (hP.row.keeps hk) (hP.mt.keeps hk)
  rw [hm] at hci
  rw [hxx] at hcc hx ⊢
  have hx2 : ¬ (1000000000000 : Int) ≤ x := by omega
  have HCC := Lib.hid hcc
  have HCI := Lib.hid hci
  have HCO := Lib.hid hco
  have HI := Lib.hid hI
  have HM := Lib.hid hm
  have HT := Lib.hid htk
  have HNO := Lib.hid hnow
  have HLN : Hid (p.l.length = n) := Lib.hid (by rw [← hn, hP.mt.len])
  have HB0 := Lib.hid ((((Blk.new w 24 #[.slice a n c, .int .i64 x]).alloc (.cells #[.int .i64 now] 3)).alloc (.cells #[.slice none 0 0, .int .i64 0] 24)))
  have HB1 := Lib.hid ((blk_at (w.alloc (.cells #[.slice a n c, .int .i64 x] 24)) 3 #[.int .i64 now] (w.heap.size + 1) (by simp)).alloc (.cells #[.slice none 0 0, .int .i64 0] 24))
  have HB2 := Lib.hid (blk_at ((w.alloc (.cells #[.slice a n c, .int .i64 x] 24)).alloc (.cells #[.int .i64 now] 3)) 24 #[.slice none 0 0, .int .i64 0] (w.heap.size + 1 + 1) (by simp))
  have HK := Lib.hid ((((Keeps.refl [] w).alloc (.cells #[.slice a n c, .int .i64 x] 24)).alloc (.cells #[.int .i64 now] 3)).alloc (.cells #[.slice none 0 0, .int .i64 0] 24))
  clear hcc hci hco he hP hI hxx hn hm hsml htk hnow hy hz
  go_enter Tryd.func12, Tryd.ntmps12
  go_wp2_with (fail)
  refine (HCC.out _ HK.out).mono ?_
  rintro r w1 ⟨rfl, hk⟩
  have HB0 := Lib.hid (HB0.out.keeps hk (by simp))
  have HB1 := Lib.hid (HB1.out.keeps hk (by simp))
  have HB2 := Lib.hid (HB2.out.keeps hk (by simp))
  have HK := Lib.hid (HK.out.trans hk)
  clear hk
  unfold errV
  go_wp2_with (fail)
  refine (HCI.out _ HK.out).mono ?_
  rintro r w2 ⟨rfl, hk⟩
  have HB0 := Lib.hid (HB0.out.keeps hk (by simp))
  have HB1 := Lib.hid (HB1.out.keeps hk (by simp))
  have HB2 := Lib.hid (HB2.out.keeps hk (by simp))
  have HK := Lib.hid (HK.out.trans hk)
  clear hk
  have HSZ : Hid (w.heap.size + 1 + 1 < w2.heap.size) := Lib.hid HB2.out.lt
  have p0 : _ = some (Value.slice a n c) := HB0.out.cell 0
  have p1 : _ = some (Value.int .i64 x) := HB0.out.cell 1
  go_wp2_with (fail)
  refine (HCO.out _ HK.out).mono ?_
  rintro r w3 ⟨v0, V0, rfl, hs0, hm0, hb0, hf0⟩
  have HF0 : Hid (∀ z ∈ V0, FrV w.heap.size z) := Lib.hid (fun z hz => Fr.down (hf0 z hz) HK.out.size)
  clear hf0
  have hk := Keeps.of_below hb0 []
  have HB0 := Lib.hid (HB0.out.keeps hk (by simp))
  have HB1 := Lib.hid (HB1.out.keeps hk (by simp))
  have HB2 := Lib.hid (HB2.out.keeps hk (by simp))
  have HK := Lib.hid (HK.out.trans hk)
  have HDL := Lib.hid (delStale_any v0 V0 w2.heap.size (by rw [hm0.len, HLN.out]; omega) now HNO.out (Mt.used hm0 HT.out) (w.heap.size + 1) w3 hb0.size (by have := HSZ.out; omega) (HB1.out.cell 0) hs0)
  have HM0 := Lib.hid hm0
  have HW3 := Lib.hid hb0.size
  clear hk hs0 hm0 hb0 p0 p1
  go_wp2_with (fail)
  refine HDL.out.mono ?_
  clear HDL
  rintro r w4 ⟨v1, rfl, hs1, hk1⟩
  obtain ⟨F, hF⟩ : ∃ F, V0.filter (freshV now) = F := ⟨_, rfl⟩
  have hmf : Mt w4 F (p.l.filter (freshB now)) := by rw [← hF]; exact (HM0.out.strK hk1).filter now
  have HFF : Hid (∀ z ∈ F, FrV w.heap.size z) := Lib.hid (fun z hz => HF0.out z (List.mem_filter.1 (by rw [← hF] at hz; exact hz)).1)
  rw [hF] at hs1
  have hlow : ∀ {g : Nat} {ty : TypeId} {cs : Array Value}, Blk w3 g ty cs → g < w2.heap.size → Blk w4 g ty cs := fun h hg => (hk1.low.block _ hg).trans h
  have HB0 := Lib.hid (hlow HB0.out (by have := HSZ.out; omega))
  have HB1 := Lib.hid (hlow HB1.out (by have := HSZ.out; omega))
  have HB2 := Lib.hid (hlow HB2.out HSZ.out)
  have HK4 : Hid (Keeps [] w w4) := Lib.hid (Keeps.of_below ((HK.out.below (Nat.le_refl _) (by simp)).trans (hk1.low.mono (by have := HSZ.out; omega))) [])
  have HIS4 : Hid (StrsV w4 ia ic xs) := Lib.hid (HI.out.keeps HK4.out)
  have HSB : Hid (w2.heap.size ≤ w4.heap.size) := Lib.hid (Nat.le_trans HW3.out hk1.low.size)
  have hFl : F.length ≤ 3 := by rw [hmf.len]; exact Nat.le_trans (filter_len_le _ _) (by rw [HLN.out]; exact hn3)
  obtain ⟨k, hk⟩ : ∃ k, F.length = k := ⟨_, rfl⟩
  have HKF := Lib.hid hk
  have HMF := Lib.hid hmf
  have pn : w4.cell? ⟨w.heap.size, 1, none⟩ = some (.int .i64 x) := HB0.out.cell 1
  have pw : w4.cell? ⟨w.heap.size + 1, 0, none⟩ = some (.int .i64 now) := HB1.out.cell 0
  obtain ⟨a1, c1, hv1, hc1, -⟩ := hs1.row
  rw [hk] at hv1 hc1 hFl
  subst hv1
  clear hmf hF hk
  by_cases hk3 : k = 3
  · subst hk3
    obtain ⟨g, off, cap, hv, h1c, hs2⟩ := hs1.tail (by rw [HKF.out]; omega)
    injection hv with e1 e2 e3
    subst e1
    subst e3
    clear e2
    have hsl : (Instr.slice 22 (.slice (some ⟨g, off, none⟩) 3 c1) (some (.int .i64 1)) none none).run Tryd.prog w4 = .ok (.slice (some ⟨g, off + 3, none⟩) 2 (c1 - 1)) w4 := by
      have := snap_slice_l w4 g off 3 c1 1 (by omega) h1c
      simpa using this
    have HS4 : Hid (SRow w4 w2.heap.size (.slice (some ⟨g, off + 3, none⟩) 2 (c1 - 1)) (F.drop 1)) := Lib.hid (by rw [HKF.out] at hs2; simpa using hs2)
    have HM4 : Hid (Mt w4 (F.drop 1) (pinL p.l now)) := Lib.hid (by unfold pinL; rw [← HMF.out.len, HKF.out, if_pos rfl]; exact HMF.out.drop 1)
    have HL4 : Hid ((F.drop 1).length ≤ 1000) := Lib.hid (by rw [List.length_drop, HKF.out]; omega)
    have HF4 : Hid (∀ z ∈ F.drop 1, FrV w.heap.size z) := Lib.hid (fun z hz => HFF.out z (List.mem_of_mem_drop hz))
    obtain ⟨F2, hF2⟩ : ∃ F2, F.drop 1 = F2 := ⟨_, rfl⟩
    rw [hF2] at HS4 HM4 HL4 HF4
    clear hs1 hs2 hc1 hk1 hF2
    go_wp2
    have hss : ∀ w' : World, w'.heap[w.heap.size]? = w4.heap[w.heap.size]? → w'.heap[w.heap.size + 1]? = w4.heap[w.heap.size + 1]? → (w'.cell? ⟨w.heap.size, 1, none⟩ = some (.int .i64 x) ∧ w'.cell? ⟨w.heap.size + 1, 0, none⟩ = some (.int .i64 now)) := fun w' h0 h1 => ⟨(World.cell?_of_block (a := ⟨w.heap.size, 1, none⟩) h0).trans pn, (World.cell?_of_block (a := ⟨w.heap.size + 1, 0, none⟩) h1).trans pw⟩
    have HSS := Lib.hid hss
    clear hss pn pw hlow
    go_cut [11] (fun v wx => ∃ a9 k9 c9 V9, v = .slice a9 k9 c9 ∧ Hid (V9.length = k9) ∧ Hid (PoolV wx a9 c9 V9 ⟨pinL p.l now ++ [⟨x, xs, now⟩], x + 1⟩) ∧ Hid (Keeps [] w wx) ∧ Hid (Blk wx w.heap.size 24 #[.slice a n c, .int .i64 x]) ∧ Hid (Blk wx (w.heap.size + 1 + 1) 24 #[.slice none 0 0, .int .i64 0]) ∧ Hid (∀ z ∈ V9, FrV w.heap.size z))
    case first =>
      refine wp_region_held_drew (S := (fun w' : World => w'.cell? ⟨w.heap.size, 1, none⟩ = some (.int .i64 x) ∧ w'.cell? ⟨w.heap.size + 1, 0, none⟩ = some (.int .i64 now))) (by kernel_rfl) ?_ (fun hHeld => ?_)
      · (try dsimp only); (first | exact hS9 | exact hS5a _ | exact hS5 | exact HSS.out _ rfl rfl)
      refine wpAnyH_take (i := 0) (oi := { dst := some 41, op := Op.move (Operand.tmp 11), type := 22, pos := "snaps.go:154", after := #[], guard := none }) (v := ?_) rfl (by kernel_rfl) (by kernel_rfl) (by kernel_rfl) (fun _ _ _ h => h) (Or.inl ⟨by rfl, ?_⟩) (by assumption) ?_
      rotate_left; · ((intro w hSw; (try dsimp only at hSw); go_simp); try with_reducible rfl)
      try simp only [Act.put, List.setIfInBounds_toArray, List.set_cons_zero, List.set_cons_succ]
      refine wpAnyH_take (i := 1) (oi := { dst := some 42, op := Op.fieldAddr 24 (Operand.tmp 3) 1, type := 0, pos := "snaps.go:154", after := #[], guard := none }) (v := ?_) rfl (by kernel_rfl) (by kernel_rfl) (by kernel_rfl) (fun _ _ _ h => h) (Or.inl ⟨by rfl, ?_⟩) (by assumption) ?_
      rotate_left; · ((intro w hSw; (try dsimp only at hSw); go_simp); try with_reducible rfl)
      try simp only [Act.put, List.setIfInBounds_toArray, List.set_cons_zero, List.set_cons_succ]
      refine wpAnyH_take (i := 2) (oi := { dst := some 43, op := Op.load 3 (Operand.tmp 42), type := 3, pos := "snaps.go:154", after := #[{ on := 1, ground := Ground.data }], guard := none }) (v := ?_) rfl (by kernel_rfl) (by kernel_rfl) (by kernel_rfl) (fun _ _ _ h => h) (Or.inl ⟨by rfl, ?_⟩) (by assumption) ?_
      rotate_left; · ((intro w hSw; (try dsimp only at hSw); go_simp); try with_reducible rfl)
      try simp only [Act.put, List.setIfInBounds_toArray, List.set_cons_zero, List.set_cons_succ]
      refine wpAnyH_take (i := 3) (oi := { dst := some 44, op := Op.move (Operand.tmp 1), type := 25, pos := "snaps.go:154", after := #[], guard := none }) (v := ?_) rfl (by kernel_rfl) (by kernel_rfl) (by kernel_rfl) (fun _ _ _ h => h) (Or.inl ⟨by rfl, ?_⟩) (by assumption) ?_
      rotate_left; · ((intro w hSw; (try dsimp only at hSw); go_simp); try with_reducible rfl)
      try simp only [Act.put, List.setIfInBounds_toArray, List.set_cons_zero, List.set_cons_succ]
      refine wpAnyH_take (i := 5) (oi := { dst := some 46, op := Op.load 3 (Operand.tmp 5), type := 3, pos := "snaps.go:154", after := #[], guard := none }) (v := ?_) rfl (by kernel_rfl) (by kernel_rfl) (by kernel_rfl) (fun _ _ _ h => h) (Or.inl ⟨by rfl, ?_⟩) (by assumption) ?_
      rotate_left; · ((intro w hSw; (try dsimp only at hSw); go_simp); try with_reducible rfl)
      try simp only [Act.put, List.setIfInBounds_toArray, List.set_cons_zero, List.set_cons_succ]
      refine wpAnyH_ready (rs := [4]) (by kernel_rfl) (by simp) ?_
      refine AllReadyH.cons rfl (fun K hK => ?_) ?_
      · go_simp
        (first | ((with_reducible refine (clone_fr ia ic xs m HM.out _ (HIS4.out.keeps ((Keeps.refl [] w4).drew))).mono ?_); rintro e5 w5 ⟨a5, c5, rfl, hst5, hk5, hfr5⟩; have HFR5 : Hid (Fr w.heap.size a5 m) := Lib.hid (hfr5.down HK4.out.size); have HK5 := Lib.hid (((Keeps.refl [] w4).drew).trans hk5); have HST5 := Lib.hid hst5; have hS5 := HSS.out w5 (HK5.out.block _ HB0.out.lt (by simp)) (HK5.out.block _ HB1.out.lt (by simp)); have hS5a := fun o => HSS.out (w5.alloc o) ((HK5.out.alloc o).block _ HB0.out.lt (by simp)) ((HK5.out.alloc o).block _ HB1.out.lt (by simp)); clear hst5 hk5 hfr5) | (obtain ⟨v9, w9, hrun, hs9, hk9⟩ := SRow.push ((HS4.out.keeps HK5.out).keeps ((Keeps.refl [] w5).alloc (.cells (SV.arr (⟨x, a5, m, c5, now⟩ : SV)) 39))) HL4.out (by have := HK5.out.size; have := HSB.out; simp; omega) w5.heap.size (⟨x, a5, m, c5, now⟩ : SV) (Blk.new w5 39 (SV.arr (⟨x, a5, m, c5, now⟩ : SV))) 22; simp only [SV.arr] at hrun; refine wp_append_run _ _ 22 (by rfl) (by rfl) (by rfl) (by rfl) hrun ?_; have hS9 := HSS.out w9 ((hk9.low.block _ (by have := HSZ.out; omega)).trans ((HK5.out.alloc _).block _ HB0.out.lt (by simp))) ((hk9.low.block _ (by have := HSZ.out; omega)).trans ((HK5.out.alloc _).block _ HB1.out.lt (by simp))); have HS9 := Lib.hid hs9; have HK9 := Lib.hid hk9; clear hs9 hk9 hrun))
        refine hK.out _ _ ?_ (fun hHeld => ?_)
        · (try dsimp only); (first | exact hS9 | exact hS5a _ | exact hS5 | exact HSS.out _ rfl rfl)
        clear hK K
        try simp only [Act.put, List.setIfInBounds_toArray, List.set_cons_zero, List.set_cons_succ]
        refine wpAnyH_take (i := 6) (oi := { dst := some 47, op := Op.build 39 #[(0, Operand.tmp 43), (1, Operand.tmp 45), (2, Operand.tmp 46)], type := 39, pos := "snaps.go:154", after := #[{ on := 2, ground := Ground.data }, { on := 4, ground := Ground.data }, { on := 5, ground := Ground.data }], guard := none }) (v := ?_) rfl (by kernel_rfl) (by kernel_rfl) (by kernel_rfl) (fun _ _ _ h => h) (Or.inl ⟨by rfl, ?_⟩) (by assumption) ?_
        rotate_left; · ((intro w hSw; (try dsimp only at hSw); go_simp); try with_reducible rfl)
        try simp only [Act.put, List.setIfInBounds_toArray, List.set_cons_zero, List.set_cons_succ]
        refine wpAnyH_ready (rs := [7]) (by kernel_rfl) (by simp) ?_
        refine AllReadyH.cons rfl (fun K hK => ?_) ?_
        · go_simp
          refine hK.out _ _ ?_ (fun hHeld => ?_)
          · (try dsimp only); (first | exact hS9 | exact hS5a _ | exact hS5 | exact HSS.out _ rfl rfl)
          clear hK K
          try simp only [Act.put, List.setIfInBounds_toArray, List.set_cons_zero, List.set_cons_succ]
          refine wpAnyH_ready (rs := [8]) (by kernel_rfl) (by simp) ?_
          refine AllReadyH.cons rfl (fun K hK => ?_) ?_
          · skip
            (first | ((with_reducible refine (clone_fr ia ic xs m HM.out _ (HIS4.out.keeps ((Keeps.refl [] w4).drew))).mono ?_); rintro e5 w5 ⟨a5, c5, rfl, hst5, hk5, hfr5⟩; have HFR5 : Hid (Fr w.heap.size a5 m) := Lib.hid (hfr5.down HK4.out.size); have HK5 := Lib.hid (((Keeps.refl [] w4).drew).trans hk5); have HST5 := Lib.hid hst5; have hS5 := HSS.out w5 (HK5.out.block _ HB0.out.lt (by simp)) (HK5.out.block _ HB1.out.lt (by simp)); have hS5a := fun o => HSS.out (w5.alloc o) ((HK5.out.alloc o).block _ HB0.out.lt (by simp)) ((HK5.out.alloc o).block _ HB1.out.lt (by simp)); clear hst5 hk5 hfr5) | (obtain ⟨v9, w9, hrun, hs9, hk9⟩ := SRow.push ((HS4.out.keeps HK5.out).keeps ((Keeps.refl [] w5).alloc (.cells (SV.arr (⟨x, a5, m, c5, now⟩ : SV)) 39))) HL4.out (by have := HK5.out.size; have := HSB.out; simp; omega) w5.heap.size (⟨x, a5, m, c5, now⟩ : SV) (Blk.new w5 39 (SV.arr (⟨x, a5, m, c5, now⟩ : SV))) 22; simp only [SV.arr] at hrun; refine wp_append_run _ _ 22 (by rfl) (by rfl) (by rfl) (by rfl) hrun ?_; have hS9 := HSS.out w9 ((hk9.low.block _ (by have := HSZ.out; omega)).trans ((HK5.out.alloc _).block _ HB0.out.lt (by simp))) ((hk9.low.block _ (by have := HSZ.out; omega)).trans ((HK5.out.alloc _).block _ HB1.out.lt (by simp))); have HS9 := Lib.hid hs9; have HK9 := Lib.hid hk9; clear hs9 hk9 hrun))
            refine hK.out _ _ ?_ (fun hHeld => ?_)
            · (try dsimp only); (first | exact hS9 | exact hS5a _ | exact hS5 | exact HSS.out _ rfl rfl)
            clear hK K
            try simp only [Act.put, List.setIfInBounds_toArray, List.set_cons_zero, List.set_cons_succ]
            refine wpAnyH_take (i := 9) (oi := { dst := some 11, op := Op.assign (Operand.tmp 49), type := 22, pos := "snaps.go:154", after := #[{ on := 8, ground := Ground.data }, { on := 8, ground := Ground.chain }, { on := 0, ground := Ground.phase }, { on := 1, ground := Ground.phase }, { on := 2, ground := Ground.phase }, { on := 3, ground := Ground.phase }, { on := 4, ground := Ground.phase }, { on := 5, ground := Ground.phase }, { on := 6, ground := Ground.phase }, { on := 7, ground := Ground.phase }, { on := 8, ground := Ground.phase }], guard := none }) (v := ?_) rfl (by kernel_rfl) (by kernel_rfl) (by kernel_rfl) (fun _ _ _ h => h) (Or.inl ⟨by rfl, ?_⟩) (by assumption) ?_
            rotate_left; · ((intro w hSw; (try dsimp only at hSw); go_simp); try with_reducible rfl)
            try simp only [Act.put, List.setIfInBounds_toArray, List.set_cons_zero, List.set_cons_succ]
            refine wpAnyH_done (by kernel_rfl) ?_ _
            (go_wp2_with (fail); go_meet; exact pin_fin HS9.out HK9.out (HM4.out.keeps (HK5.out.alloc _)) (HST5.out.keeps ((Keeps.refl [] w5).alloc _)) HM.out HL4.out ((HK4.out.trans HK5.out).alloc _) ((HB0.out.keeps HK5.out (by simp)).alloc _) ((HB2.out.keeps HK5.out (by simp)).alloc _) HSZ.out (by have := HK5.out.size; have := HSB.out; simp; omega) HF4.out HFR5.out)
          exact AllReadyH.nil
        exact AllReadyH.nil
      exact AllReadyH.nil
    case rest =>
      obtain ⟨a9, k9, c9, V9, rfl, HV9, HP9, HK9, HB09, HB29, HF9⟩ := hcut
      have pn : wc.cell? ⟨w.heap.size, 1, none⟩ = some (.int .i64 x) := HB09.out.cell 1
      have q0 : wc.cell? ⟨w.heap.size + 1 + 1, 0, none⟩ = some (.slice none 0 0) := HB29.out.cell 0
      have q1 : wc.cell? ⟨w.heap.size + 1 + 1, 1, none⟩ = some (.int .i64 0) := HB29.out.cell 1
      have f0 := HB29.out.frozen 0
      have f1 := HB29.out.frozen 1
      have hwx : IntKind.i64.wrap (x + 1) = x + 1 := IntWalk.i64_in _ (by omega)
      have hw1 : ∀ u v, ((wc.drew.setCell ⟨w.heap.size + 1 + 1, 0, none⟩ u).setCell ⟨w.heap.size + 1 + 1, 1, none⟩ v).cell? ⟨w.heap.size, 1, none⟩ = some (.int .i64 x) := fun u v => (((HB09.out.drew).far (p := ⟨w.heap.size + 1 + 1, 0, none⟩) (by dsimp only; omega) u).far (p := ⟨w.heap.size + 1 + 1, 1, none⟩) (by dsimp only; omega) v).cell 1
      have HW1 := Lib.hid hw1
      have HBF := Lib.hid (And.intro (HB29.out.set_ 0 (.slice a9 k9 c9)) ((HB29.out.set_ 0 (.slice a9 k9 c9)).set_ 1 (.int .i64 (x + 1))))
      have HKF := Lib.hid ((HK9.out.drew.setCell (p := ⟨w.heap.size + 1 + 1, 0, none⟩) (.inr (by dsimp only; omega)) (.slice a9 k9 c9)).setCell (p := ⟨w.heap.size + 1 + 1, 1, none⟩) (.inr (by dsimp only; omega)) (.int .i64 (x + 1)))
      have HPF := Lib.hid ((HP9.out.keepsS (Keeps.drew (Keeps.refl [w.heap.size + 1 + 1] wc) |>.setCell (p := ⟨w.heap.size + 1 + 1, 0, none⟩) (.inl (by simp)) (.slice a9 k9 c9) |>.setCell (p := ⟨w.heap.size + 1 + 1, 1, none⟩) (.inl (by simp)) (.int .i64 (x + 1))) (fun k hk => by simp at hk; subst hk; exact ⟨_, HB29.out, by decide, by decide⟩)))
      clear hw1
      go_wp2_with (fail)
      refine wp_region_held_drew (S := (fun w' : World => w'.cell? ⟨w.heap.size, 1, none⟩ = some (.int .i64 x))) (by kernel_rfl) ?_ (fun hHeld => ?_)
      · (try dsimp only); (first | exact HW1.out _ _ | exact pn)
      refine wpAnyH_take (i := 0) (oi := { dst := some 50, op := Op.move (Operand.tmp 11), type := 22, pos := "snaps.go:155", after := #[], guard := none }) (v := ?_) rfl (by kernel_rfl) (by kernel_rfl) (by kernel_rfl) (fun _ _ _ h => h) (Or.inl ⟨by rfl, ?_⟩) (by assumption) ?_
      rotate_left; · ((intro w hSw; (try dsimp only at hSw); go_simp); try with_reducible rfl)
      try simp only [Act.put, List.setIfInBounds_toArray, List.set_cons_zero, List.set_cons_succ]
      refine wpAnyH_take (i := 1) (oi := { dst := some 51, op := Op.fieldAddr 24 (Operand.tmp 3) 1, type := 0, pos := "snaps.go:155", after := #[], guard := none }) (v := ?_) rfl (by kernel_rfl) (by kernel_rfl) (by kernel_rfl) (fun _ _ _ h => h) (Or.inl ⟨by rfl, ?_⟩) (by assumption) ?_
      rotate_left; · ((intro w hSw; (try dsimp only at hSw); go_simp); try with_reducible rfl)
      try simp only [Act.put, List.setIfInBounds_toArray, List.set_cons_zero, List.set_cons_succ]
      refine wpAnyH_take (i := 2) (oi := { dst := some 52, op := Op.load 3 (Operand.tmp 51), type := 3, pos := "snaps.go:155", after := #[{ on := 1, ground := Ground.data }], guard := none }) (v := ?_) rfl (by kernel_rfl) (by kernel_rfl) (by kernel_rfl) (fun _ _ _ h => h) (Or.inl ⟨by rfl, ?_⟩) (by assumption) ?_
      rotate_left; · ((intro w hSw; (try dsimp only at hSw); go_simp); try with_reducible rfl)
      try simp only [Act.put, List.setIfInBounds_toArray, List.set_cons_zero, List.set_cons_succ]
      refine wpAnyH_take (i := 3) (oi := { dst := some 53, op := Op.binOp BinOp.add 3 (Operand.tmp 52) (Operand.const (Value.int IntKind.i64 1)) 3, type := 3, pos := "snaps.go:155", after := #[{ on := 2, ground := Ground.data }], guard := none }) (v := ?_) rfl (by kernel_rfl) (by kernel_rfl) (by kernel_rfl) (fun _ _ _ h => h) (Or.inl ⟨by rfl, ?_⟩) (by assumption) ?_
      rotate_left; · ((intro w hSw; (try dsimp only at hSw); go_simp); try with_reducible rfl)
      try simp only [Act.put, List.setIfInBounds_toArray, List.set_cons_zero, List.set_cons_succ]
      refine wpAnyH_take (i := 4) (oi := { dst := some 54, op := Op.build 24 #[(0, Operand.tmp 50), (1, Operand.tmp 53)], type := 24, pos := "snaps.go:155", after := #[{ on := 0, ground := Ground.data }, { on := 3, ground := Ground.data }], guard := none }) (v := ?_) rfl (by kernel_rfl) (by kernel_rfl) (by kernel_rfl) (fun _ _ _ h => h) (Or.inl ⟨by rfl, ?_⟩) (by assumption) ?_
      rotate_left; · ((intro w hSw; (try dsimp only at hSw); go_simp); try with_reducible rfl)
      try simp only [Act.put, List.setIfInBounds_toArray, List.set_cons_zero, List.set_cons_succ]
      refine wpAnyH_take (i := 5) (oi := { dst := some 55, op := Op.fieldAddr 24 (Operand.tmp 3) 1, type := 0, pos := "snaps.go:155", after := #[{ on := 7, ground := Ground.gcOnly Departure.lateStores }], guard := none }) (v := ?_) rfl (by kernel_rfl) (by kernel_rfl) (by kernel_rfl) (fun _ _ _ h => h) (Or.inl ⟨by rfl, ?_⟩) (by assumption) ?_
      rotate_left; · ((intro w hSw; (try dsimp only at hSw); go_simp); try with_reducible rfl)
      try simp only [Act.put, List.setIfInBounds_toArray, List.set_cons_zero, List.set_cons_succ]
      refine wpAnyH_take (i := 6) (oi := { dst := some 56, op := Op.load 3 (Operand.tmp 55), type := 3, pos := "snaps.go:155", after := #[{ on := 5, ground := Ground.data }, { on := 7, ground := Ground.gcOnly Departure.lateStores }], guard := none }) (v := ?_) rfl (by kernel_rfl) (by kernel_rfl) (by kernel_rfl) (fun _ _ _ h => h) (Or.inl ⟨by rfl, ?_⟩) (by assumption) ?_
      rotate_left; · ((intro w hSw; (try dsimp only at hSw); go_simp); try with_reducible rfl)
      try simp only [Act.put, List.setIfInBounds_toArray, List.set_cons_zero, List.set_cons_succ]
      refine wpAnyH_ready (rs := [7]) (by kernel_rfl) (by simp) ?_
      refine AllReadyH.cons rfl (fun K hK => ?_) ?_
      · go_simp
        refine hK.out _ _ ?_ (fun hHeld => ?_)
        · (try dsimp only); (first | exact HW1.out _ _ | exact pn)
        clear hK K
        try simp only [Act.put, List.setIfInBounds_toArray, List.set_cons_zero, List.set_cons_succ]
        refine wpAnyH_take (i := 8) (oi := { dst := some 7, op := Op.assign (Operand.tmp 56), type := 3, pos := "snaps.go:155", after := #[{ on := 6, ground := Ground.data }, { on := 7, ground := Ground.chain }, { on := 0, ground := Ground.phase }, { on := 1, ground := Ground.phase }, { on := 2, ground := Ground.phase }, { on := 3, ground := Ground.phase }, { on := 4, ground := Ground.phase }, { on := 5, ground := Ground.phase }, { on := 6, ground := Ground.phase }, { on := 7, ground := Ground.phase }], guard := none }) (v := ?_) rfl (by kernel_rfl) (by kernel_rfl) (by kernel_rfl) (fun _ _ _ h => h) (Or.inl ⟨by rfl, ?_⟩) (by assumption) ?_
        rotate_left; · ((intro w hSw; (try dsimp only at hSw); go_simp); try with_reducible rfl)
        try simp only [Act.put, List.setIfInBounds_toArray, List.set_cons_zero, List.set_cons_succ]
        refine wpAnyH_take (i := 9) (oi := { dst := some 8, op := Op.assign (Operand.const (Value.int IntKind.i64 0)), type := 30, pos := "snaps.go:155", after := #[{ on := 8, ground := Ground.chain }, { on := 0, ground := Ground.phase }, { on := 1, ground := Ground.phase }, { on := 2, ground := Ground.phase }, { on := 3, ground := Ground.phase }, { on := 4, ground := Ground.phase }, { on := 5, ground := Ground.phase }, { on := 6, ground := Ground.phase }, { on := 7, ground := Ground.phase }, { on := 8, ground := Ground.phase }], guard := none }) (v := ?_) rfl (by kernel_rfl) (by kernel_rfl) (by kernel_rfl) (fun _ _ _ h => h) (Or.inl ⟨by rfl, ?_⟩) (by assumption) ?_
        rotate_left; · ((intro w hSw; (try dsimp only at hSw); go_simp); try with_reducible rfl)
        try simp only [Act.put, List.setIfInBounds_toArray, List.set_cons_zero, List.set_cons_succ]
        refine wpAnyH_done (by kernel_rfl) ?_ _
        (go_wp2; refine bodyPost_ret (v := .tuple #[.agg #[.slice a9 k9 c9, .int .i64 (x + 1)], .int .i64 x, .int .i64 0]) (by have q0 : _ = some (Value.slice a9 k9 c9) := HBF.out.1.cell 0; have q1 : _ = some (Value.int .i64 (x + 1)) := HBF.out.2.cell 1; simp [results, Tryd.results12, go_sem, q0, q1]) rfl ?_; exact ⟨a9, k9, c9, V9, rfl, HV9.out, HPF.out, HKF.out, HF9.out⟩)
      exact AllReadyH.nil
  · have hk3' : ((k : Int) == 3) = false := by simp; omega
    have HS4 : Hid (SRow w4 w2.heap.size (.slice a1 k c1) F) := Lib.hid hs1
    have HM4 : Hid (Mt w4 F (pinL p.l now)) := Lib.hid (by unfold pinL; rw [← HMF.out.len, HKF.out, if_neg hk3]; exact HMF.out)
    have HF4 := HFF
    have HL4 : Hid (F.length ≤ 1000) := Lib.hid (by rw [HKF.out]; omega)
    clear hs1 hc1 hk1
    go_wp2
    have hss : ∀ w' : World, w'.heap[w.heap.size]? = w4.heap[w.heap.size]? → w'.heap[w.heap.size + 1]? = w4.heap[w.heap.size + 1]? → (w'.cell? ⟨w.heap.size, 1, none⟩ = some (.int .i64 x) ∧ w'.cell? ⟨w.heap.size + 1, 0, none⟩ = some (.int .i64 now)) := fun w' h0 h1 => ⟨(World.cell?_of_block (a := ⟨w.heap.size, 1, none⟩) h0).trans pn, (World.cell?_of_block (a := ⟨w.heap.size + 1, 0, none⟩) h1).trans pw⟩
    have HSS := Lib.hid hss
    clear hss pn pw hlow
    go_cut [11] (fun v wx => ∃ a9 k9 c9 V9, v = .slice a9 k9 c9 ∧ Hid (V9.length = k9) ∧ Hid (PoolV wx a9 c9 V9 ⟨pinL p.l now ++ [⟨x, xs, now⟩], x + 1⟩) ∧ Hid (Keeps [] w wx) ∧ Hid (Blk wx w.heap.size 24 #[.slice a n c, .int .i64 x]) ∧ Hid (Blk wx (w.heap.size + 1 + 1) 24 #[.slice none 0 0, .int .i64 0]) ∧ Hid (∀ z ∈ V9, FrV w.heap.size z))
    case first =>
      refine wp_region_held_drew (S := (fun w' : World => w'.cell? ⟨w.heap.size, 1, none⟩ = some (.int .i64 x) ∧ w'.cell? ⟨w.heap.size + 1, 0, none⟩ = some (.int .i64 now))) (by kernel_rfl) ?_ (fun hHeld => ?_)
      · (try dsimp only); (first | exact hS9 | exact hS5a _ | exact hS5 | exact HSS.out _ rfl rfl)
      refine wpAnyH_take (i := 0) (oi := { dst := some 41, op := Op.move (Operand.tmp 11), type := 22, pos := "snaps.go:154", after := #[], guard := none }) (v := ?_) rfl (by kernel_rfl) (by kernel_rfl) (by kernel_rfl) (fun _ _ _ h => h) (Or.inl ⟨by rfl, ?_⟩) (by assumption) ?_
      rotate_left; · ((intro w hSw; (try dsimp only at hSw); go_simp); try with_reducible rfl)
      try simp only [Act.put, List.setIfInBounds_toArray, List.set_cons_zero, List.set_cons_succ]
      refine wpAnyH_take (i := 1) (oi := { dst := some 42, op := Op.fieldAddr 24 (Operand.tmp 3) 1, type := 0, pos := "snaps.go:154", after := #[], guard := none }) (v := ?_) rfl (by kernel_rfl) (by kernel_rfl) (by kernel_rfl) (fun _ _ _ h => h) (Or.inl ⟨by rfl, ?_⟩) (by assumption) ?_
      rotate_left; · ((intro w hSw; (try dsimp only at hSw); go_simp); try with_reducible rfl)
      try simp only [Act.put, List.setIfInBounds_toArray, List.set_cons_zero, List.set_cons_succ]
      refine wpAnyH_take (i := 2) (oi := { dst := some 43, op := Op.load 3 (Operand.tmp 42), type := 3, pos := "snaps.go:154", after := #[{ on := 1, ground := Ground.data }], guard := none }) (v := ?_) rfl (by kernel_rfl) (by kernel_rfl) (by kernel_rfl) (fun _ _ _ h => h) (Or.inl ⟨by rfl, ?_⟩) (by assumption) ?_
      rotate_left; · ((intro w hSw; (try dsimp only at hSw); go_simp); try with_reducible rfl)
      try simp only [Act.put, List.setIfInBounds_toArray, List.set_cons_zero, List.set_cons_succ]
      refine wpAnyH_take (i := 3) (oi := { dst := some 44, op := Op.move (Operand.tmp 1), type := 25, pos := "snaps.go:154", after := #[], guard := none }) (v := ?_) rfl (by kernel_rfl) (by kernel_rfl) (by kernel_rfl) (fun _ _ _ h => h) (Or.inl ⟨by rfl, ?_⟩) (by assumption) ?_
      rotate_left; · ((intro w hSw; (try dsimp only at hSw); go_simp); try with_reducible rfl)
      try simp only [Act.put, List.setIfInBounds_toArray, List.set_cons_zero, List.set_cons_succ]
      refine wpAnyH_take (i := 5) (oi := { dst := some 46, op := Op.load 3 (Operand.tmp 5), type := 3, pos := "snaps.go:154", after := #[], guard := none }) (v := ?_) rfl (by kernel_rfl) (by kernel_rfl) (by kernel_rfl) (fun _ _ _ h => h) (Or.inl ⟨by rfl, ?_⟩) (by assumption) ?_
      rotate_left; · ((intro w hSw; (try dsimp only at hSw); go_simp); try with_reducible rfl)
      try simp only [Act.put, List.setIfInBounds_toArray, List.set_cons_zero, List.set_cons_succ]
      refine wpAnyH_ready (rs := [4]) (by kernel_rfl) (by simp) ?_
      refine AllReadyH.cons rfl (fun K hK => ?_) ?_
      · go_simp
        (first | ((with_reducible refine (clone_fr ia ic xs m HM.out _ (HIS4.out.keeps ((Keeps.refl [] w4).drew))).mono ?_); rintro e5 w5 ⟨a5, c5, rfl, hst5, hk5, hfr5⟩; have HFR5 : Hid (Fr w.heap.size a5 m) := Lib.hid (hfr5.down HK4.out.size); have HK5 := Lib.hid (((Keeps.refl [] w4).drew).trans hk5); have HST5 := Lib.hid hst5; have hS5 := HSS.out w5 (HK5.out.block _ HB0.out.lt (by simp)) (HK5.out.block _ HB1.out.lt (by simp)); have hS5a := fun o => HSS.out (w5.alloc o) ((HK5.out.alloc o).block _ HB0.out.lt (by simp)) ((HK5.out.alloc o).block _ HB1.out.lt (by simp)); clear hst5 hk5 hfr5) | (obtain ⟨v9, w9, hrun, hs9, hk9⟩ := SRow.push ((HS4.out.keeps HK5.out).keeps ((Keeps.refl [] w5).alloc (.cells (SV.arr (⟨x, a5, m, c5, now⟩ : SV)) 39))) HL4.out (by have := HK5.out.size; have := HSB.out; simp; omega) w5.heap.size (⟨x, a5, m, c5, now⟩ : SV) (Blk.new w5 39 (SV.arr (⟨x, a5, m, c5, now⟩ : SV))) 22; simp only [SV.arr] at hrun; refine wp_append_run _ _ 22 (by rfl) (by rfl) (by rfl) (by rfl) hrun ?_; have hS9 := HSS.out w9 ((hk9.low.block _ (by have := HSZ.out; omega)).trans ((HK5.out.alloc _).block _ HB0.out.lt (by simp))) ((hk9.low.block _ (by have := HSZ.out; omega)).trans ((HK5.out.alloc _).block _ HB1.out.lt (by simp))); have HS9 := Lib.hid hs9; have HK9 := Lib.hid hk9; clear hs9 hk9 hrun))
        refine hK.out _ _ ?_ (fun hHeld => ?_)
        · (try dsimp only); (first | exact hS9 | exact hS5a _ | exact hS5 | exact HSS.out _ rfl rfl)
        clear hK K
        try simp only [Act.put, List.setIfInBounds_toArray, List.set_cons_zero, List.set_cons_succ]
        refine wpAnyH_take (i := 6) (oi := { dst := some 47, op := Op.build 39 #[(0, Operand.tmp 43), (1, Operand.tmp 45), (2, Operand.tmp 46)], type := 39, pos := "snaps.go:154", after := #[{ on := 2, ground := Ground.data }, { on := 4, ground := Ground.data }, { on := 5, ground := Ground.data }], guard := none }) (v := ?_) rfl (by kernel_rfl) (by kernel_rfl) (by kernel_rfl) (fun _ _ _ h => h) (Or.inl ⟨by rfl, ?_⟩) (by assumption) ?_
        rotate_left; · ((intro w hSw; (try dsimp only at hSw); go_simp); try with_reducible rfl)
        try simp only [Act.put, List.setIfInBounds_toArray, List.set_cons_zero, List.set_cons_succ]
        refine wpAnyH_ready (rs := [7]) (by kernel_rfl) (by simp) ?_
        refine AllReadyH.cons rfl (fun K hK => ?_) ?_
        · go_simp
          refine hK.out _ _ ?_ (fun hHeld => ?_)
          · (try dsimp only); (first | exact hS9 | exact hS5a _ | exact hS5 | exact HSS.out _ rfl rfl)
          clear hK K
          try simp only [Act.put, List.setIfInBounds_toArray, List.set_cons_zero, List.set_cons_succ]
          refine wpAnyH_ready (rs := [8]) (by kernel_rfl) (by simp) ?_
          refine AllReadyH.cons rfl (fun K hK => ?_) ?_
          · skip
            (first | ((with_reducible refine (clone_fr ia ic xs m HM.out _ (HIS4.out.keeps ((Keeps.refl [] w4).drew))).mono ?_); rintro e5 w5 ⟨a5, c5, rfl, hst5, hk5, hfr5⟩; have HFR5 : Hid (Fr w.heap.size a5 m) := Lib.hid (hfr5.down HK4.out.size); have HK5 := Lib.hid (((Keeps.refl [] w4).drew).trans hk5); have HST5 := Lib.hid hst5; have hS5 := HSS.out w5 (HK5.out.block _ HB0.out.lt (by simp)) (HK5.out.block _ HB1.out.lt (by simp)); have hS5a := fun o => HSS.out (w5.alloc o) ((HK5.out.alloc o).block _ HB0.out.lt (by simp)) ((HK5.out.alloc o).block _ HB1.out.lt (by simp)); clear hst5 hk5 hfr5) | (obtain ⟨v9, w9, hrun, hs9, hk9⟩ := SRow.push ((HS4.out.keeps HK5.out).keeps ((Keeps.refl [] w5).alloc (.cells (SV.arr (⟨x, a5, m, c5, now⟩ : SV)) 39))) HL4.out (by have := HK5.out.size; have := HSB.out; simp; omega) w5.heap.size (⟨x, a5, m, c5, now⟩ : SV) (Blk.new w5 39 (SV.arr (⟨x, a5, m, c5, now⟩ : SV))) 22; simp only [SV.arr] at hrun; refine wp_append_run _ _ 22 (by rfl) (by rfl) (by rfl) (by rfl) hrun ?_; have hS9 := HSS.out w9 ((hk9.low.block _ (by have := HSZ.out; omega)).trans ((HK5.out.alloc _).block _ HB0.out.lt (by simp))) ((hk9.low.block _ (by have := HSZ.out; omega)).trans ((HK5.out.alloc _).block _ HB1.out.lt (by simp))); have HS9 := Lib.hid hs9; have HK9 := Lib.hid hk9; clear hs9 hk9 hrun))
            refine hK.out _ _ ?_ (fun hHeld => ?_)
            · (try dsimp only); (first | exact hS9 | exact hS5a _ | exact hS5 | exact HSS.out _ rfl rfl)
            clear hK K
            try simp only [Act.put, List.setIfInBounds_toArray, List.set_cons_zero, List.set_cons_succ]
            refine wpAnyH_take (i := 9) (oi := { dst := some 11, op := Op.assign (Operand.tmp 49), type := 22, pos := "snaps.go:154", after := #[{ on := 8, ground := Ground.data }, { on := 8, ground := Ground.chain }, { on := 0, ground := Ground.phase }, { on := 1, ground := Ground.phase }, { on := 2, ground := Ground.phase }, { on := 3, ground := Ground.phase }, { on := 4, ground := Ground.phase }, { on := 5, ground := Ground.phase }, { on := 6, ground := Ground.phase }, { on := 7, ground := Ground.phase }, { on := 8, ground := Ground.phase }], guard := none }) (v := ?_) rfl (by kernel_rfl) (by kernel_rfl) (by kernel_rfl) (fun _ _ _ h => h) (Or.inl ⟨by rfl, ?_⟩) (by assumption) ?_
            rotate_left; · ((intro w hSw; (try dsimp only at hSw); go_simp); try with_reducible rfl)
            try simp only [Act.put, List.setIfInBounds_toArray, List.set_cons_zero, List.set_cons_succ]
            refine wpAnyH_done (by kernel_rfl) ?_ _
            (go_wp2_with (fail); go_meet; exact pin_fin HS9.out HK9.out (HM4.out.keeps (HK5.out.alloc _)) (HST5.out.keeps ((Keeps.refl [] w5).alloc _)) HM.out HL4.out ((HK4.out.trans HK5.out).alloc _) ((HB0.out.keeps HK5.out (by simp)).alloc _) ((HB2.out.keeps HK5.out (by simp)).alloc _) HSZ.out (by have := HK5.out.size; have := HSB.out; simp; omega) HF4.out HFR5.out)
          exact AllReadyH.nil
        exact AllReadyH.nil
      exact AllReadyH.nil
    case rest =>
      obtain ⟨a9, k9, c9, V9, rfl, HV9, HP9, HK9, HB09, HB29, HF9⟩ := hcut
      have pn : wc.cell? ⟨w.heap.size, 1, none⟩ = some (.int .i64 x) := HB09.out.cell 1
      have q0 : wc.cell? ⟨w.heap.size + 1 + 1, 0, none⟩ = some (.slice none 0 0) := HB29.out.cell 0
      have q1 : wc.cell? ⟨w.heap.size + 1 + 1, 1, none⟩ = some (.int .i64 0) := HB29.out.cell 1
      have f0 := HB29.out.frozen 0
      have f1 := HB29.out.frozen 1
      have hwx : IntKind.i64.wrap (x + 1) = x + 1 := IntWalk.i64_in _ (by omega)
      have hw1 : ∀ u v, ((wc.drew.setCell ⟨w.heap.size + 1 + 1, 0, none⟩ u).setCell ⟨w.heap.size + 1 + 1, 1, none⟩ v).cell? ⟨w.heap.size, 1, none⟩ = some (.int .i64 x) := fun u v => (((HB09.out.drew).far (p := ⟨w.heap.size + 1 + 1, 0, none⟩) (by dsimp only; omega) u).far (p := ⟨w.heap.size + 1 + 1, 1, none⟩) (by dsimp only; omega) v).cell 1
      have HW1 := Lib.hid hw1
      have HBF := Lib.hid (And.intro (HB29.out.set_ 0 (.slice a9 k9 c9)) ((HB29.out.set_ 0 (.slice a9 k9 c9)).set_ 1 (.int .i64 (x + 1))))
      have HKF := Lib.hid ((HK9.out.drew.setCell (p := ⟨w.heap.size + 1 + 1, 0, none⟩) (.inr (by dsimp only; omega)) (.slice a9 k9 c9)).setCell (p := ⟨w.heap.size + 1 + 1, 1, none⟩) (.inr (by dsimp only; omega)) (.int .i64 (x + 1)))
      have HPF := Lib.hid ((HP9.out.keepsS (Keeps.drew (Keeps.refl [w.heap.size + 1 + 1] wc) |>.setCell (p := ⟨w.heap.size + 1 + 1, 0, none⟩) (.inl (by simp)) (.slice a9 k9 c9) |>.setCell (p := ⟨w.heap.size + 1 + 1, 1, none⟩) (.inl (by simp)) (.int .i64 (x + 1))) (fun k hk => by simp at hk; subst hk; exact ⟨_, HB29.out, by decide, by decide⟩)))
      clear hw1
      go_wp2_with (fail)
      refine wp_region_held_drew (S := (fun w' : World => w'.cell? ⟨w.heap.size, 1, none⟩ = some (.int .i64 x))) (by kernel_rfl) ?_ (fun hHeld => ?_)
      · (try dsimp only); (first | exact HW1.out _ _ | exact pn)
      refine wpAnyH_take (i := 0) (oi := { dst := some 50, op := Op.move (Operand.tmp 11), type := 22, pos := "snaps.go:155", after := #[], guard := none }) (v := ?_) rfl (by kernel_rfl) (by kernel_rfl) (by kernel_rfl) (fun _ _ _ h => h) (Or.inl ⟨by rfl, ?_⟩) (by assumption) ?_
      rotate_left; · ((intro w hSw; (try dsimp only at hSw); go_simp); try with_reducible rfl)
      try simp only [Act.put, List.setIfInBounds_toArray, List.set_cons_zero, List.set_cons_succ]
      refine wpAnyH_take (i := 1) (oi := { dst := some 51, op := Op.fieldAddr 24 (Operand.tmp 3) 1, type := 0, pos := "snaps.go:155", after := #[], guard := none }) (v := ?_) rfl (by kernel_rfl) (by kernel_rfl) (by kernel_rfl) (fun _ _ _ h => h) (Or.inl ⟨by rfl, ?_⟩) (by assumption) ?_
      rotate_left; · ((intro w hSw; (try dsimp only at hSw); go_simp); try with_reducible rfl)
      try simp only [Act.put, List.setIfInBounds_toArray, List.set_cons_zero, List.set_cons_succ]
      refine wpAnyH_take (i := 2) (oi := { dst := some 52, op := Op.load 3 (Operand.tmp 51), type := 3, pos := "snaps.go:155", after := #[{ on := 1, ground := Ground.data }], guard := none }) (v := ?_) rfl (by kernel_rfl) (by kernel_rfl) (by kernel_rfl) (fun _ _ _ h => h) (Or.inl ⟨by rfl, ?_⟩) (by assumption) ?_
      rotate_left; · ((intro w hSw; (try dsimp only at hSw); go_simp); try with_reducible rfl)
      try simp only [Act.put, List.setIfInBounds_toArray, List.set_cons_zero, List.set_cons_succ]
      refine wpAnyH_take (i := 3) (oi := { dst := some 53, op := Op.binOp BinOp.add 3 (Operand.tmp 52) (Operand.const (Value.int IntKind.i64 1)) 3, type := 3, pos := "snaps.go:155", after := #[{ on := 2, ground := Ground.data }], guard := none }) (v := ?_) rfl (by kernel_rfl) (by kernel_rfl) (by kernel_rfl) (fun _ _ _ h => h) (Or.inl ⟨by rfl, ?_⟩) (by assumption) ?_
      rotate_left; · ((intro w hSw; (try dsimp only at hSw); go_simp); try with_reducible rfl)
      try simp only [Act.put, List.setIfInBounds_toArray, List.set_cons_zero, List.set_cons_succ]
      refine wpAnyH_take (i := 4) (oi := { dst := some 54, op := Op.build 24 #[(0, Operand.tmp 50), (1, Operand.tmp 53)], type := 24, pos := "snaps.go:155", after := #[{ on := 0, ground := Ground.data }, { on := 3, ground := Ground.data }], guard := none }) (v := ?_) rfl (by kernel_rfl) (by kernel_rfl) (by kernel_rfl) (fun _ _ _ h => h) (Or.inl ⟨by rfl, ?_⟩) (by assumption) ?_
      rotate_left; · ((intro w hSw; (try dsimp only at hSw); go_simp); try with_reducible rfl)
      try simp only [Act.put, List.setIfInBounds_toArray, List.set_cons_zero, List.set_cons_succ]
      refine wpAnyH_take (i := 5) (oi := { dst := some 55, op := Op.fieldAddr 24 (Operand.tmp 3) 1, type := 0, pos := "snaps.go:155", after := #[{ on := 7, ground := Ground.gcOnly Departure.lateStores }], guard := none }) (v := ?_) rfl (by kernel_rfl) (by kernel_rfl) (by kernel_rfl) (fun _ _ _ h => h) (Or.inl ⟨by rfl, ?_⟩) (by assumption) ?_
      rotate_left; · ((intro w hSw; (try dsimp only at hSw); go_simp); try with_reducible rfl)
      try simp only [Act.put, List.setIfInBounds_toArray, List.set_cons_zero, List.set_cons_succ]
      refine wpAnyH_take (i := 6) (oi := { dst := some 56, op := Op.load 3 (Operand.tmp 55), type := 3, pos := "snaps.go:155", after := #[{ on := 5, ground := Ground.data }, { on := 7, ground := Ground.gcOnly Departure.lateStores }], guard := none }) (v := ?_) rfl (by kernel_rfl) (by kernel_rfl) (by kernel_rfl) (fun _ _ _ h => h) (Or.inl ⟨by rfl, ?_⟩) (by assumption) ?_
      rotate_left; · ((intro w hSw; (try dsimp only at hSw); go_simp); try with_reducible rfl)
      try simp only [Act.put, List.setIfInBounds_toArray, List.set_cons_zero, List.set_cons_succ]
      refine wpAnyH_ready (rs := [7]) (by kernel_rfl) (by simp) ?_
      refine AllReadyH.cons rfl (fun K hK => ?_) ?_
      · go_simp
        refine hK.out _ _ ?_ (fun hHeld => ?_)
        · (try dsimp only); (first | exact HW1.out _ _ | exact pn)
        clear hK K
        try simp only [Act.put, List.setIfInBounds_toArray, List.set_cons_zero, List.set_cons_succ]
        refine wpAnyH_take (i := 8) (oi := { dst := some 7, op := Op.assign (Operand.tmp 56), type := 3, pos := "snaps.go:155", after := #[{ on := 6, ground := Ground.data }, { on := 7, ground := Ground.chain }, { on := 0, ground := Ground.phase }, { on := 1, ground := Ground.phase }, { on := 2, ground := Ground.phase }, { on := 3, ground := Ground.phase }, { on := 4, ground := Ground.phase }, { on := 5, ground := Ground.phase }, { on := 6, ground := Ground.phase }, { on := 7, ground := Ground.phase }], guard := none }) (v := ?_) rfl (by kernel_rfl) (by kernel_rfl) (by kernel_rfl) (fun _ _ _ h => h) (Or.inl ⟨by rfl, ?_⟩) (by assumption) ?_
        rotate_left; · ((intro w hSw; (try dsimp only at hSw); go_simp); try with_reducible rfl)
        try simp only [Act.put, List.setIfInBounds_toArray, List.set_cons_zero, List.set_cons_succ]
        refine wpAnyH_take (i := 9) (oi := { dst := some 8, op := Op.assign (Operand.const (Value.int IntKind.i64 0)), type := 30, pos := "snaps.go:155", after := #[{ on := 8, ground := Ground.chain }, { on := 0, ground := Ground.phase }, { on := 1, ground := Ground.phase }, { on := 2, ground := Ground.phase }, { on := 3, ground := Ground.phase }, { on := 4, ground := Ground.phase }, { on := 5, ground := Ground.phase }, { on := 6, ground := Ground.phase }, { on := 7, ground := Ground.phase }, { on := 8, ground := Ground.phase }], guard := none }) (v := ?_) rfl (by kernel_rfl) (by kernel_rfl) (by kernel_rfl) (fun _ _ _ h => h) (Or.inl ⟨by rfl, ?_⟩) (by assumption) ?_
        rotate_left; · ((intro w hSw; (try dsimp only at hSw); go_simp); try with_reducible rfl)
        try simp only [Act.put, List.setIfInBounds_toArray, List.set_cons_zero, List.set_cons_succ]
        refine wpAnyH_done (by kernel_rfl) ?_ _
        (go_wp2; refine bodyPost_ret (v := .tuple #[.agg #[.slice a9 k9 c9, .int .i64 (x + 1)], .int .i64 x, .int .i64 0]) (by have q0 : _ = some (Value.slice a9 k9 c9) := HBF.out.1.cell 0; have q1 : _ = some (Value.int .i64 (x + 1)) := HBF.out.2.cell 1; simp [results, Tryd.results12, go_sem, q0, q1]) rfl ?_; exact ⟨a9, k9, c9, V9, rfl, HV9.out, HPF.out, HKF.out, HF9.out⟩)
      exact AllReadyH.nil
theorem pin_ok (a : Option Addr) (c : Nat) (V : List SV) (p : Po) (n : Nat) (hn : V.length = n) (ia : Option Addr) (ic m : Nat) (xs : List ByteArray) (hm : xs.length = m) (now : Int) (w : World) (hP : PoolV w a c V p) (hI : StrsV w ia ic xs) (e : Nat → Addr) (he : Env w e)
    (hy : checkB p now = true) (hz : itemsB xs = true) (hx : p.next < 1000000000000) :
    Calls Tryd.prog 12 #[.agg #[.slice a n c, .int .i64 p.next], .slice ia m ic, .int .i64 now] w (PinR w ⟨pinL p.l now ++ [⟨p.next, xs, now⟩], p.next + 1⟩ p.next 0) :=
  (pin_okF a c V p n hn ia ic m xs hm now w hP hI e he hy hz hx).mono fun _ _ h => h.plain
end Go.Proofs.YtbcppmcjbcnlbaaDoor
