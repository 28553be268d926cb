/- The walk of slices.Delete at listings: one element. -/
import Derived.Test.YtbcppmcjbcnlbaaDoorSnapJ
import Derived.Deep.RegionLaw
namespace Go.Proofs.YtbcppmcjbcnlbaaDoor
open Go.RowKit Go.Shelf
attribute [local go_sem ↓] Go.wp_at_zero Go.wp_at_succ

theorem snap_slice_lhm (W : World) (g off n cap l h m : Nat) (h0 : l ≤ h) (h1 : h ≤ m) (h2 : m ≤ cap) :
    (Instr.slice 22 (.slice (some ⟨g, off, none⟩) n cap) (some (.int .i64 (l : Int))) (some (.int .i64 (h : Int))) (some (.int .i64 (m : Int)))).run Tryd.prog W = .ok (sliced (some ⟨g, off, none⟩) l h m 3) W := by
  have hh := run_slice_lhm (P := Tryd.prog) W 22 (some ⟨g, off, none⟩) n cap snap_elem .i64 .i64 .i64 l h m (by omega) (by omega) (by omega) (by omega)
  rw [hh, snap_size]
  rfl
theorem snap_slice_lh (W : World) (g off n cap l h : Nat) (h0 : l ≤ h) (h1 : h ≤ cap) (h2 : l < cap) :
    (Instr.slice 22 (.slice (some ⟨g, off, none⟩) n cap) (some (.int .i64 (l : Int))) (some (.int .i64 (h : Int))) none).run Tryd.prog W = .ok (.slice (some ⟨g, off + l * 3, none⟩) (h - l) (cap - l)) W := by
  have hh := run_slice_lh (P := Tryd.prog) W 22 (some ⟨g, off, none⟩) n cap snap_elem .i64 .i64 l h (by omega) (by omega) (by omega)
  rw [hh, snap_size]
  simp [sliced, show ¬ cap = l by omega, addr_add, Result.andThen]
theorem snap_slice_tail (W : World) (g off n cap l : Nat) (h1 : l ≤ n) (h2 : n ≤ cap) :
    ∃ A : Addr, (Instr.slice 22 (.slice (some ⟨g, off, none⟩) n cap) (some (.int .i64 (l : Int))) none none).run Tryd.prog W = .ok (.slice (some A) (n - l) (cap - l)) W ∧ (l < n → A = ⟨g, off + l * 3, none⟩) := by
  by_cases h : l < cap
  · exact ⟨_, snap_slice_l W g off n cap l h1 h, fun _ => rfl⟩
  · have hh := run_slice_l (P := Tryd.prog) W 22 (some ⟨g, off, none⟩) n cap snap_elem .i64 l (by omega) (by omega)
    rw [snap_size] at hh
    refine ⟨⟨g, off, none⟩, ?_, fun hl => by omega⟩
    rw [hh]
    simp [sliced, show cap = l by omega, Result.andThen]

theorem wp_append_run {P : Program} {w : World} {o : Oper} {a : Act} {K : Act → World → Prop} {Q : Exit → Act → World → Prop} (s x : Operand) (t : TypeId)
    (ho : o.op = .call { callee := .builtin .append, args := #[s, x], argTypes := #[t, t] }) {d : Nat} (hd : o.dst = some d) {v u v' : Value} {w' : World} (hs : a.eval s = v) (hx : a.eval x = u)
    (hr : (Builtin.append_ #[t, t] o.type #[v, u]).run P w = .ok v' w') (h : K (a.put (some d) v') w') : o.wp P a w K Q := by
  rw [← hd] at h
  unfold Oper.wp execOp
  simp only [ho, resolve, invoke, builtin, Sem.run_bind, Sem.run_pure, Result.andThen_ok, List.map_toArray, List.map_cons, List.map_nil, hs, hx, hr]
  exact h

set_option maxRecDepth 100000 in
set_option maxHeartbeats 4000000 in
theorem del1_any (v : Value) (V : List SV) (B : Nat) (hs : V.length ≤ 1000) (i : Nat) (hi : i < V.length) (w : World) (hB : B ≤ w.heap.size) (hR : SRow w B v V) :
    Calls Tryd.prog 31 #[v, .int .i64 (i : Int), .int .i64 ((i : Int) + 1)] w fun r w' => ∃ v', r = .returned v' ∧ SRow w' B v' (V.eraseIdx i) ∧ StrK B w w' ∧ Keeps (rowB v) w w' ∧ rowB v' = rowB v := by
  rcases hR with ⟨_, rfl⟩ | ⟨g, off, cap, rfl, hg, hseg, hlc, hcm, his⟩
  · simp at hi
  obtain ⟨n, hn⟩ : ∃ n, V.length = n := ⟨_, rfl⟩
  rw [hn] at hs hi hlc ⊢
  obtain ⟨i0, hii, hz0, hz1, hz2⟩ := info_parts snap_info
  obtain ⟨news, hnews⟩ : ∃ news, (V.drop (i + 1)).flatMap SV.cells = news := ⟨_, rfl⟩
  have hnl : news.length = (n - (i + 1)) * 3 := by rw [← hnews, flat_len, List.length_drop, hn]
  have hsplit : V.flatMap SV.cells = (V.take (i + 1)).flatMap SV.cells ++ news := by rw [← hnews, ← List.flatMap_append, List.take_append_drop]
  have hnc : SegIs w g (off + (i + 1) * 3) news := by
    rw [hsplit] at his
    have := his.right
    rwa [flat_len, List.length_take, Nat.min_eq_left (by omega)] at this
  obtain ⟨A, hA, hAeq⟩ := snap_slice_tail w g off n cap (i + 1) hi hlc
  have hs3 : ∀ W : World, (Instr.slice 22 (.slice (some ⟨g, off, none⟩) n cap) (some (.int .i64 ((i : Int) + 1))) none none).run Tryd.prog W = .ok (.slice (some A) (n - (i + 1)) (cap - (i + 1))) W := fun W => by
    obtain ⟨A', hA', hAeq'⟩ := snap_slice_tail W g off n cap (i + 1) hi hlc
    have e : A' = A := by
      by_cases h : i + 1 < cap
      · have h1 := snap_slice_l w g off n cap (i + 1) hi h
        have h2 := snap_slice_l W g off n cap (i + 1) hi h
        rw [hA] at h1; rw [hA'] at h2
        injection h1 with h1 _; injection h1 with h1 _ _; injection h1 with h1
        injection h2 with h2 _; injection h2 with h2 _ _; injection h2 with h2
        rw [h1, h2]
      · have q1 := run_slice_l (P := Tryd.prog) w 22 (some ⟨g, off, none⟩) n cap snap_elem .i64 (i + 1 : Nat) (by omega) (by omega)
        have q2 := run_slice_l (P := Tryd.prog) W 22 (some ⟨g, off, none⟩) n cap snap_elem .i64 (i + 1 : Nat) (by omega) (by omega)
        rw [hA, snap_size] at q1
        rw [hA', snap_size] at q2
        simp [sliced, show cap = i + 1 by omega, Result.andThen] at q1 q2
        rw [q1, q2]
    rw [← e]; exact hA'
  have hs2 : ∀ W : World, (Instr.slice 22 (.slice (some ⟨g, off, none⟩) n cap) none (some (.int .i64 (i : Int))) none).run Tryd.prog W = .ok (.slice (some ⟨g, off, none⟩) i cap) W := fun W => snap_slice_h W g off n cap i (by omega)
  have hs1 : ∀ W : World, (Instr.slice 22 (.slice (some ⟨g, off, none⟩) n cap) (some (.int .i64 (i : Int))) (some (.int .i64 ((i : Int) + 1))) (some (.int .i64 (n : Int)))).run Tryd.prog W = .ok (sliced (some ⟨g, off, none⟩) i (i + 1) n 3) W := fun W => snap_slice_lhm W g off n cap i (i + 1) n (by omega) hi hlc
  have hs4 : ∀ W : World, (Instr.slice 22 (.slice (some ⟨g, off, none⟩) (n - 1) cap) (some (.int .i64 ((n - 1 : Nat) : Int))) (some (.int .i64 (n : Int))) none).run Tryd.prog W = .ok (.slice (some ⟨g, off + (n - 1) * 3, none⟩) 1 (cap - (n - 1))) W := fun W => by
    have := snap_slice_lh W g off (n - 1) cap (n - 1) n (by omega) (by omega) (by omega)
    rwa [show n - (n - 1) = 1 by omega] at this
  obtain ⟨X, hX⟩ : ∃ X, sliced (some ⟨g, off, none⟩) i (i + 1) n 3 = X := ⟨_, rfl⟩
  rw [hX] at hs1
  have hcl0 : ∀ j, j < news.length → (w.cell? ⟨g, off + i * 3 + j, none⟩).isSome = true := fun j hj => by
    have := hseg.cells (i * 3 + j) (by omega)
    rwa [← Nat.add_assoc] at this
  have happ : ∀ (k : Nat) (ty : TypeId), (Builtin.append_ #[22, 22] ty #[.slice (some ⟨g, off, none⟩) i cap, .slice (some A) (n - (i + 1)) (cap - (i + 1))]).run Tryd.prog (w.drewN k) = .ok (.slice (some ⟨g, off, none⟩) (n - 1) cap) ((w.drewN k).setCells g (off + i * 3) news) := fun k ty => by
    have hsrc : Src Tryd.prog i0.size 22 (.slice (some A) (n - (i + 1)) (cap - (i + 1))) (n - (i + 1)) news (w.drewN k) :=
      Src.ofSlice _ Tryd.underlying22 _ _ _ _ (by rw [hz1]; exact hnl) (fun j u hj => by
        have hjl := (List.getElem?_eq_some_iff.1 hj).1
        rw [hAeq (by omega), addr_add]
        exact hnc.get hj) (fun u hu => one_cells (V.drop (i + 1)) u (by rw [hnews]; exact hu))
    have := run_append_room_src (P := Tryd.prog) (w.drewN k) 22 22 ty 39 i0 Tryd.underlying22 hii g off i cap _ _ _ hsrc (by omega) (fun j hj => by rw [hz1]; exact hcl0 j hj) (fun j hj => hseg.frozen _)
    rw [hz1, show i + (n - (i + 1)) = n - 1 by omega] at this
    exact this
  have hw1 : IntKind.i64.wrap ((i : Int) + 1) = (i : Int) + 1 := IntWalk.i64_in _ (by omega)
  have hij : ((i : Int) == (i : Int) + 1) = false := by simp; omega
  have HSEG := Lib.hid hseg
  have HSP := Lib.hid hsplit
  have HIS := Lib.hid his
  have HNL := Lib.hid hnl
  have HNW := Lib.hid hnews
  have HCL0 := Lib.hid hcl0
  have HN := Lib.hid hn
  have HAPP := Lib.hid happ
  obtain ⟨W1, hW1⟩ : ∃ W1, (w.drewN 1).setCells g (off + i * 3) news = W1 := ⟨_, rfl⟩
  have happ1 : ∀ ty, (Builtin.append_ #[22, 22] ty #[.slice (some ⟨g, off, none⟩) i cap, .slice (some A) (n - (i + 1)) (cap - (i + 1))]).run Tryd.prog w.drew = .ok (.slice (some ⟨g, off, none⟩) (n - 1) cap) W1 := fun ty => by rw [← hW1]; exact happ 1 ty
  have hseg1 : Seg W1 g off (cap * 3) := by rw [← hW1]; exact (hseg.same (W' := w.drewN 1) rfl).setCells _ _
  have hcl : ∀ ty, (Builtin.clear_ #[22] ty #[.slice (some ⟨g, off + (n - 1) * 3, none⟩) 1 (cap - (n - 1))]).run Tryd.prog W1 = .ok (.tuple #[]) (W1.setCells g (off + (n - 1) * 3) (zeros3 1)) := fun ty =>
    run_clear_snaps W1 ty g _ 1 _ (by omega) (fun j hj => by have := hseg1.cells ((n - 1) * 3 + j) (by omega); rwa [← Nat.add_assoc] at this) (fun j _ => hseg1.frozen _)
  have HSEG1 := Lib.hid hseg1
  have HW1 := Lib.hid hW1
  clear hW1 hseg1 hseg hsplit his hnl hnews hnc hA hAeq hcl0 happ hX hn hii hz0 hz1 hz2
  have fin : ∃ v', Ending.returned (Value.slice (some ⟨g, off, none⟩) (n - 1) cap) = .returned v' ∧ SRow (W1.setCells g (off + (n - 1) * 3) (zeros3 1)) B v' (V.eraseIdx i) ∧ StrK B w (W1.setCells g (off + (n - 1) * 3) (zeros3 1)) ∧ Keeps (rowB (.slice (some ⟨g, off, none⟩) n cap)) w (W1.setCells g (off + (n - 1) * 3) (zeros3 1)) ∧ rowB v' = rowB (.slice (some ⟨g, off, none⟩) n cap) := by
    have hel : (V.eraseIdx i).length = n - 1 := by rw [List.length_eraseIdx, if_pos (by rw [HN.out]; exact hi), HN.out]
    have hz : (zeros3 1).length = 3 := rfl
    have htl : ((V.take i).flatMap SV.cells).length = i * 3 := by rw [flat_len, List.length_take, HN.out, Nat.min_eq_left (by omega)]
    have hx : SegIs W1 g off ((V.eraseIdx i).flatMap SV.cells) := by
      rw [List.eraseIdx_eq_take_drop_succ, List.flatMap_append, HNW.out]
      have h1 : SegIs w g off ((V.take i).flatMap SV.cells) := by
        have := HIS.out
        rw [← List.take_append_drop i V, List.flatMap_append] at this
        exact this.left
      rw [← HW1.out]
      refine SegIs.app (SegIs.out (W := w.drewN 1) (h1.same rfl) (.inl (by rw [htl]; omega))) ?_
      rw [htl]
      exact SegIs.into (W := w.drewN 1) HCL0.out
    refine ⟨_, rfl, .inr ⟨g, off, cap, by rw [hel], hg, HSEG1.out.setCells _ _, by rw [hel]; omega, hcm, hx.out (.inl (by rw [flat_len, hel]; omega))⟩, ?_⟩
    have k1 : StrK B w (w.drewN 1) := ⟨(Below.refl B w).drew, fun _ _ _ h => h⟩
    have k2 : StrK B (w.drewN 1) W1 := by rw [← HW1.out]; exact StrK.of_one (keeps_setCells g _ _ _) hB hg HSEG.out.blk
    refine ⟨(k1.trans k2).trans (StrK.of_one (keeps_setCells g _ _ W1) (Nat.le_trans hB (k1.trans k2).low.size) hg HSEG1.out.blk), ?_, rfl⟩
    have q1 : Keeps [g] w W1 := by rw [← HW1.out]; exact ((Keeps.refl [g] w).drewN 1).trans (keeps_setCells g _ _ _)
    exact q1.trans (keeps_setCells g _ _ W1)
  go_enter Tryd.func31, Tryd.ntmps31
  go_wp2
  refine wp_region_held_drew (S := (fun _ : World => True)) (by kernel_rfl) ?_ (fun hHeld => ?_)
  · trivial
  refine wpAnyH_take (i := 0) (oi := { dst := some 20, op := Op.move (Operand.tmp 0), type := 22, pos := "slices.go:232", after := #[], guard := none }) (v := ?_) rfl (by kernel_rfl) (by kernel_rfl) (by kernel_rfl) (fun _ _ _ h => h) (Or.inl ⟨by rfl, ?_⟩) (by assumption) ?_
  rotate_left; · ((intro w hSw; (try dsimp only at hSw); go_simp); try with_reducible rfl)
  try simp only [Act.put, List.setIfInBounds_toArray, List.set_cons_zero, List.set_cons_succ]
  refine wpAnyH_take (i := 1) (oi := { dst := some 21, op := Op.move (Operand.tmp 1), type := 3, pos := "slices.go:232", after := #[], guard := none }) (v := ?_) rfl (by kernel_rfl) (by kernel_rfl) (by kernel_rfl) (fun _ _ _ h => h) (Or.inl ⟨by rfl, ?_⟩) (by assumption) ?_
  rotate_left; · ((intro w hSw; (try dsimp only at hSw); go_simp); try with_reducible rfl)
  try simp only [Act.put, List.setIfInBounds_toArray, List.set_cons_zero, List.set_cons_succ]
  refine wpAnyH_take (i := 2) (oi := { dst := some 22, op := Op.slice 22 (Operand.tmp 20) none (some (Operand.tmp 21)) none, type := 22, pos := "slices.go:232", after := #[{ on := 0, ground := Ground.data }, { on := 1, ground := Ground.data }], guard := none }) (v := ?_) rfl (by kernel_rfl) (by kernel_rfl) (by kernel_rfl) (fun _ _ _ h => h) (Or.inl ⟨by rfl, ?_⟩) (by assumption) ?_
  rotate_left; · ((intro w hSw; (try dsimp only at hSw); go_simp); try with_reducible rfl)
  try simp only [Act.put, List.setIfInBounds_toArray, List.set_cons_zero, List.set_cons_succ]
  refine wpAnyH_take (i := 3) (oi := { dst := some 23, op := Op.move (Operand.tmp 0), type := 22, pos := "slices.go:232", after := #[], guard := none }) (v := ?_) rfl (by kernel_rfl) (by kernel_rfl) (by kernel_rfl) (fun _ _ _ h => h) (Or.inl ⟨by rfl, ?_⟩) (by assumption) ?_
  rotate_left; · ((intro w hSw; (try dsimp only at hSw); go_simp); try with_reducible rfl)
  try simp only [Act.put, List.setIfInBounds_toArray, List.set_cons_zero, List.set_cons_succ]
  refine wpAnyH_take (i := 4) (oi := { dst := some 24, op := Op.move (Operand.tmp 2), type := 3, pos := "slices.go:232", after := #[], guard := none }) (v := ?_) rfl (by kernel_rfl) (by kernel_rfl) (by kernel_rfl) (fun _ _ _ h => h) (Or.inl ⟨by rfl, ?_⟩) (by assumption) ?_
  rotate_left; · ((intro w hSw; (try dsimp only at hSw); go_simp); try with_reducible rfl)
  try simp only [Act.put, List.setIfInBounds_toArray, List.set_cons_zero, List.set_cons_succ]
  refine wpAnyH_take (i := 5) (oi := { dst := some 25, op := Op.slice 22 (Operand.tmp 23) (some (Operand.tmp 24)) none none, type := 22, pos := "slices.go:232", after := #[{ on := 3, ground := Ground.data }, { on := 4, ground := Ground.data }], guard := none }) (v := ?_) rfl (by kernel_rfl) (by kernel_rfl) (by kernel_rfl) (fun _ _ _ h => h) (Or.inl ⟨by rfl, ?_⟩) (by assumption) ?_
  rotate_left; · ((intro w hSw; (try dsimp only at hSw); go_simp); try with_reducible rfl)
  try simp only [Act.put, List.setIfInBounds_toArray, List.set_cons_zero, List.set_cons_succ]
  refine wpAnyH_ready (rs := [6]) (by kernel_rfl) (by simp) ?_
  refine AllReadyH.cons rfl (fun K hK => ?_) ?_
  · skip
    (refine wp_append_run _ _ 22 (by rfl) (by rfl) (by rfl) (by rfl) (happ1 _) ?_)
    refine hK.out _ _ ?_ (fun hHeld => ?_)
    · trivial
    clear hK K
    try simp only [Act.put, List.setIfInBounds_toArray, List.set_cons_zero, List.set_cons_succ]
    refine wpAnyH_take (i := 7) (oi := { dst := some 0, op := Op.assign (Operand.tmp 26), type := 22, pos := "slices.go:232", after := #[{ on := 6, ground := Ground.data }, { on := 6, ground := Ground.chain }, { on := 0, ground := Ground.phase }, { on := 1, ground := Ground.phase }, { on := 2, ground := Ground.phase }, { on := 3, ground := Ground.phase }, { on := 4, ground := Ground.phase }, { on := 5, ground := Ground.phase }, { on := 6, ground := Ground.phase }], guard := none }) (v := ?_) rfl (by kernel_rfl) (by kernel_rfl) (by kernel_rfl) (fun _ _ _ h => h) (Or.inl ⟨by rfl, ?_⟩) (by assumption) ?_
    rotate_left; · ((intro w hSw; (try dsimp only at hSw); go_simp); try with_reducible rfl)
    try simp only [Act.put, List.setIfInBounds_toArray, List.set_cons_zero, List.set_cons_succ]
    refine wpAnyH_done (by kernel_rfl) ?_ _
    ((try simp only [List.getElem_toArray, List.getElem_cons_succ, List.getElem_cons_zero, List.setIfInBounds_toArray, List.set_cons_succ, List.set_cons_zero]); go_wp2; go_ret; exact fin)
  exact AllReadyH.nil
end Go.Proofs.YtbcppmcjbcnlbaaDoor
