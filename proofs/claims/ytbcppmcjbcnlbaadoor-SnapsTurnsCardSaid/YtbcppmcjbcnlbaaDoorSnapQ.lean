/- The walks of the law's Items, and of the document's Same at texts. -/
import Derived.Test.YtbcppmcjbcnlbaaDoorSnapO
namespace Go.Proofs.YtbcppmcjbcnlbaaDoor
open Go.RowKit Go.Shelf
attribute [local go_sem ↓] Go.wp_at_zero Go.wp_at_succ

def cutI (x : ByteArray) : ByteArray := x.extract 0 (min x.size 65)
def cutItems (xs : List ByteArray) : List ByteArray := (xs.take 66).map cutI
theorem cutI_size (x : ByteArray) : (cutI x).size ≤ 65 := by unfold cutI; simp; omega
theorem cutItems_size (xs : List ByteArray) : ∀ x ∈ cutItems xs, x.size ≤ 65 := fun x hx => by
  obtain ⟨y, _, rfl⟩ := List.mem_map.1 hx; exact cutI_size y
theorem cutItems_len (xs : List ByteArray) : (cutItems xs).length ≤ 66 := by simp [cutItems]; omega
theorem strsV_one (A : World) (b : Nat) (y : ByteArray) (hy : y.size ≤ maxLen) (h : Blk A b 9 #[.string y]) : StrsV A (some ⟨b, 0, none⟩) 1 [y] :=
  ⟨Nat.le_refl _, fun _ => ⟨b, 0, #[.string y], (0, 0), rfl, h, fun i hi => by
    obtain rfl : i = 0 := by simpa using hi
    exact h.cell 0⟩, by simp, by simpa using hy, fun e => by cases e⟩

theorem items_fin {w wr w9 : World} {v : Value} {n : Nat} {xs : List Value} {cs : Array Value} (hB : Below w.heap.size w wr) (hR : wr.ownsRow w.heap.size 9 1 v n xs) (hg : ((wr.alloc (.cells cs 9)).drew).grownBy w9 v.ownBlock) : Below w.heap.size w w9 :=
  ((hB.alloc hB.size _).drew).grown hg (by have := hB.size; simp; omega) (fun j ej => by
    rcases hR.2 with ⟨rfl, _⟩ | ⟨g', cap, cur, rfl, hb, _, _⟩
    · simp [Value.ownBlock] at ej
    · obtain rfl : g' = j := by simpa [Value.ownBlock] using ej
      exact hb)
theorem items_cell {w wr w9 : World} {v : Value} {n g o : Nat} {xs : List Value} {cs : Array Value} (hR : wr.ownsRow w.heap.size 9 1 v n xs) (hg : ((wr.alloc (.cells cs 9)).drew).grownBy w9 v.ownBlock) (hl : g < wr.heap.size) (hgw : g < w.heap.size) : w9.cell? ⟨g, o, none⟩ = wr.cell? ⟨g, o, none⟩ := by
  have h1 := hg.block g (by simp; omega) (fun e => by
    rcases hR.2 with ⟨rfl, _⟩ | ⟨g', cap, cur, rfl, hb, _, _⟩
    · simp [Value.ownBlock] at e
    · obtain rfl : g = g' := by simpa [Value.ownBlock] using e
      omega)
  exact World.cell?_of_block (a := ⟨g, o, none⟩) (h1.trans (Below.heap_alloc wr _ g hl))

set_option maxRecDepth 100000 in
set_option maxHeartbeats 4000000 in
theorem items_some (w : World) (g off c : Nat) (xs : List ByteArray) (hx : StrsAt w g off xs) (hg : g < w.heap.size) (hlen : xs.length ≤ 9223372036854775807) (hs : ∀ x ∈ xs, x.size ≤ maxLen) :
    Calls Tryd.prog 11 #[.slice (some ⟨g, off, none⟩) xs.length c] w fun e w' => ∃ v, e = .returned v ∧ w'.ownsRow w.heap.size 9 1 v (cutItems xs).length ((cutItems xs).map Value.string) ∧ Below w.heap.size w w' := by
  have HX := Lib.hid hx
  have HS := Lib.hid hs
  clear hx hs
  go_enter Tryd.func11, Tryd.ntmps11
  go_wp2
  go_loopw [3, 4] (fun v i wr => ∃ k : Nat, k ≤ min xs.length 66 ∧ i = .int .i64 k ∧ Hid (wr.ownsRow w.heap.size 9 1 v ((xs.take k).map cutI).length (((xs.take k).map cutI).map Value.string)) ∧ Hid (Below w.heap.size w wr)) (fun _ i _ => 66 - (intOf i).toNat)
  case atStart => exact ⟨0, Nat.zero_le _, rfl, Lib.hid (World.ownsRow_nil _ _ _ _), Lib.hid (Below.refl _ _)⟩
  case round =>
    obtain ⟨k, hk, rfl, HR, HB⟩ := hrel
    by_cases hlt : k < xs.length ∧ k < 66
    · obtain ⟨h1, h2⟩ := hlt
      obtain ⟨x, hx⟩ : ∃ x, xs[k] = x := ⟨_, rfl⟩
      have hc := HX.out k h1
      rw [hx] at hc
      have hsz : x.size ≤ maxLen := HS.out x (by rw [← hx]; exact List.getElem_mem _)
      unfold maxLen at hsz
      rw [← HB.out.cell (by exact hg)] at hc
      have i1 : (0 : Int) ≤ (k : Int) := by omega
      have i2 : (k : Int) < (xs.length : Int) := by omega
      have i3 : (k : Int) < 66 := by omega
      have HWZ : Hid (w.heap.size ≤ wr.heap.size) := Lib.hid HB.out.size
      have HGW : Hid (g < wr.heap.size) := Lib.hid (by have := HB.out.size; omega)
      have HXK : Hid (xs[k]? = some x) := Lib.hid (by rw [List.getElem?_eq_getElem h1, hx])
      have hsl : ∀ (j : Nat) (W : World), j ≤ x.size → (Instr.slice 9 (.string x) none (some (.int .i64 (j : Int))) none).run Tryd.prog W = .ok (.string (x.extract 0 j)) W := fun j W hj => by
        have := run_slice_string_h (P := Tryd.prog) (w := W) (t := 9) (s := x) Tryd.underlying9 .i64 (j : Int) (by omega) (by omega)
        simpa using this
      obtain ⟨y, hy⟩ : ∃ y, cutI x = y := ⟨_, rfl⟩
      have HYS : Hid (y.size ≤ maxLen) := Lib.hid (by have := cutI_size x; rw [hy] at this; unfold maxLen; omega)
      have HTK : Hid ((xs.take (k + 1)).map cutI = (xs.take k).map cutI ++ [y]) := Lib.hid (by rw [take_snoc HXK.out, List.map_append, List.map_singleton, hy])
      have HCA := Lib.hid hc
      clear hx
      rcases Nat.lt_or_ge 65 x.size with hz | hz
      have hsl1 : ∀ W : World, (Instr.slice 9 (.string x) none (some (.int .i64 (65 : Int))) none).run Tryd.prog W = .ok (.string y) W := fun W => by
        have := hsl 65 W (by omega)
        rw [← hy]; unfold cutI; rw [Nat.min_eq_right (by omega)]; exact this
      have hzi : (65 : Int) < (x.size : Int) := by omega
      rotate_left
      have hsl1 : ∀ W : World, (Instr.slice 9 (.string x) none (some (.int .i64 (x.size : Int))) none).run Tryd.prog W = .ok (.string y) W := fun W => by
        have := hsl x.size W (by omega)
        rw [← hy]; unfold cutI; rw [Nat.min_eq_left (by omega)]; exact this
      have hzi : ¬ (65 : Int) < (x.size : Int) := by omega
      rotate_right
      all_goals
        clear hsl hy
        go_wp2_with (fail)
        try have hif : (if (65 : Int) < (x.size : Int) then (65 : Int) else (x.size : Int)) = (x.size : Int) := by rw [if_neg (by omega)]
        refine wp_region_held_drew (S := (fun w' : World => w'.cell? ⟨g, off + k, none⟩ = some (.string x))) (by kernel_rfl) ?_ (fun hHeld => ?_)
        · (try dsimp only); (first | exact HC9.out | exact HCA.out | exact (World.cell?_alloc_lt _ _ _ HGW.out).trans HCA.out)
        refine wpAnyH_take (i := 0) (oi := { dst := some 15, op := Op.move (Operand.tmp 3), type := 25, pos := "law.go:25", after := #[], guard := none }) (v := ?_) rfl (by kernel_rfl) (by kernel_rfl) (by kernel_rfl) (fun _ _ _ h => h) (Or.inl ⟨by rfl, ?_⟩) (by assumption) ?_
        rotate_left; · ((intro w hSw; (try dsimp only at hSw); go_simp); try with_reducible rfl)
        try simp only [Act.put, List.setIfInBounds_toArray, List.set_cons_zero, List.set_cons_succ]
        refine wpAnyH_take (i := 1) (oi := { dst := some 16, op := Op.move (Operand.tmp 0), type := 25, pos := "law.go:25", after := #[], guard := none }) (v := ?_) rfl (by kernel_rfl) (by kernel_rfl) (by kernel_rfl) (fun _ _ _ h => h) (Or.inl ⟨by rfl, ?_⟩) (by assumption) ?_
        rotate_left; · ((intro w hSw; (try dsimp only at hSw); go_simp); try with_reducible rfl)
        try simp only [Act.put, List.setIfInBounds_toArray, List.set_cons_zero, List.set_cons_succ]
        refine wpAnyH_take (i := 2) (oi := { dst := some 17, op := Op.move (Operand.tmp 4), type := 3, pos := "law.go:25", after := #[], guard := none }) (v := ?_) rfl (by kernel_rfl) (by kernel_rfl) (by kernel_rfl) (fun _ _ _ h => h) (Or.inl ⟨by rfl, ?_⟩) (by assumption) ?_
        rotate_left; · ((intro w hSw; (try dsimp only at hSw); go_simp); try with_reducible rfl)
        try simp only [Act.put, List.setIfInBounds_toArray, List.set_cons_zero, List.set_cons_succ]
        refine wpAnyH_take (i := 3) (oi := { dst := some 18, op := Op.indexAddr 25 (Operand.tmp 16) (Operand.tmp 17), type := 0, pos := "law.go:25", after := #[{ on := 1, ground := Ground.data }, { on := 2, ground := Ground.data }], guard := none }) (v := ?_) rfl (by kernel_rfl) (by kernel_rfl) (by kernel_rfl) (fun _ _ _ h => h) (Or.inl ⟨by rfl, ?_⟩) (by assumption) ?_
        rotate_left; · ((intro w hSw; (try dsimp only at hSw); go_simp); try with_reducible rfl)
        try simp only [Act.put, List.setIfInBounds_toArray, List.set_cons_zero, List.set_cons_succ]
        refine wpAnyH_take (i := 4) (oi := { dst := some 19, op := Op.load 9 (Operand.tmp 18), type := 9, pos := "law.go:25", after := #[{ on := 3, ground := Ground.data }], guard := none }) (v := ?_) rfl (by kernel_rfl) (by kernel_rfl) (by kernel_rfl) (fun _ _ _ h => h) (Or.inl ⟨by rfl, ?_⟩) (by assumption) ?_
        rotate_left; · ((intro w hSw; (try dsimp only at hSw); go_simp); try with_reducible rfl)
        try simp only [Act.put, List.setIfInBounds_toArray, List.set_cons_zero, List.set_cons_succ]
        refine wpAnyH_take (i := 5) (oi := { dst := some 20, op := Op.move (Operand.tmp 0), type := 25, pos := "law.go:25", after := #[], guard := none }) (v := ?_) rfl (by kernel_rfl) (by kernel_rfl) (by kernel_rfl) (fun _ _ _ h => h) (Or.inl ⟨by rfl, ?_⟩) (by assumption) ?_
        rotate_left; · ((intro w hSw; (try dsimp only at hSw); go_simp); try with_reducible rfl)
        try simp only [Act.put, List.setIfInBounds_toArray, List.set_cons_zero, List.set_cons_succ]
        refine wpAnyH_take (i := 6) (oi := { dst := some 21, op := Op.move (Operand.tmp 4), type := 3, pos := "law.go:25", after := #[], guard := none }) (v := ?_) rfl (by kernel_rfl) (by kernel_rfl) (by kernel_rfl) (fun _ _ _ h => h) (Or.inl ⟨by rfl, ?_⟩) (by assumption) ?_
        rotate_left; · ((intro w hSw; (try dsimp only at hSw); go_simp); try with_reducible rfl)
        try simp only [Act.put, List.setIfInBounds_toArray, List.set_cons_zero, List.set_cons_succ]
        refine wpAnyH_take (i := 7) (oi := { dst := some 22, op := Op.indexAddr 25 (Operand.tmp 20) (Operand.tmp 21), type := 0, pos := "law.go:25", after := #[{ on := 5, ground := Ground.data }, { on := 6, ground := Ground.data }], guard := none }) (v := ?_) rfl (by kernel_rfl) (by kernel_rfl) (by kernel_rfl) (fun _ _ _ h => h) (Or.inl ⟨by rfl, ?_⟩) (by assumption) ?_
        rotate_left; · ((intro w hSw; (try dsimp only at hSw); go_simp); try with_reducible rfl)
        try simp only [Act.put, List.setIfInBounds_toArray, List.set_cons_zero, List.set_cons_succ]
        refine wpAnyH_take (i := 8) (oi := { dst := some 23, op := Op.load 9 (Operand.tmp 22), type := 9, pos := "law.go:25", after := #[{ on := 7, ground := Ground.data }], guard := none }) (v := ?_) rfl (by kernel_rfl) (by kernel_rfl) (by kernel_rfl) (fun _ _ _ h => h) (Or.inl ⟨by rfl, ?_⟩) (by assumption) ?_
        rotate_left; · ((intro w hSw; (try dsimp only at hSw); go_simp); try with_reducible rfl)
        try simp only [Act.put, List.setIfInBounds_toArray, List.set_cons_zero, List.set_cons_succ]
        refine wpAnyH_take (i := 9) (oi := { dst := some 24, op := Op.call { callee := Callee.builtin Builtin.len, args := #[Operand.tmp 23], argTypes := #[9] }, type := 3, pos := "law.go:25", after := #[{ on := 8, ground := Ground.data }], guard := none }) (v := ?_) rfl (by kernel_rfl) (by kernel_rfl) (by kernel_rfl) (fun _ _ _ h => h) (Or.inl ⟨by rfl, ?_⟩) (by assumption) ?_
        rotate_left; · ((intro w hSw; (try dsimp only at hSw); go_simp); try with_reducible rfl)
        try simp only [Act.put, List.setIfInBounds_toArray, List.set_cons_zero, List.set_cons_succ]
        refine wpAnyH_take (i := 10) (oi := { dst := some 25, op := Op.call { callee := Callee.builtin Builtin.min, args := #[Operand.tmp 24, Operand.const (Value.int IntKind.i64 65)], argTypes := #[3, 3] }, type := 3, pos := "law.go:25", after := #[{ on := 9, ground := Ground.data }], guard := none }) (v := ?_) rfl (by kernel_rfl) (by kernel_rfl) (by kernel_rfl) (fun _ _ _ h => h) (Or.inl ⟨by rfl, ?_⟩) (by assumption) ?_
        rotate_left; · ((intro w hSw; (try dsimp only at hSw); go_simp); try with_reducible rfl)
        try simp only [Act.put, List.setIfInBounds_toArray, List.set_cons_zero, List.set_cons_succ]
        refine wpAnyH_take (i := 11) (oi := { dst := some 26, op := Op.slice 9 (Operand.tmp 19) none (some (Operand.tmp 25)) none, type := 9, pos := "law.go:25", after := #[{ on := 4, ground := Ground.data }, { on := 10, ground := Ground.data }], guard := none }) (v := ?_) rfl (by kernel_rfl) (by kernel_rfl) (by kernel_rfl) (fun _ _ _ h => h) (Or.inl ⟨by rfl, ?_⟩) (by assumption) ?_
        rotate_left; · ((intro w hSw; (try dsimp only at hSw); go_simp); try with_reducible rfl)
        try simp only [Act.put, List.setIfInBounds_toArray, List.set_cons_zero, List.set_cons_succ]
        refine wpAnyH_ready (rs := [12]) (by kernel_rfl) (by simp) ?_
        refine AllReadyH.cons rfl (fun K hK => ?_) ?_
        · go_simp
          refine hK.out _ _ ?_ (fun hHeld => ?_)
          · (try dsimp only); (first | exact HC9.out | exact HCA.out | exact (World.cell?_alloc_lt _ _ _ HGW.out).trans HCA.out)
          clear hK K
          try simp only [Act.put, List.setIfInBounds_toArray, List.set_cons_zero, List.set_cons_succ]
          refine wpAnyH_ready (rs := [13]) (by kernel_rfl) (by simp) ?_
          refine AllReadyH.cons rfl (fun K hK => ?_) ?_
          · skip
            (obtain ⟨v9, w9, hrun, hown, hgr⟩ := app_strs (W := (wr.alloc (.cells #[.string y] 9)).drew) (xs := [y]) ((HR.out.alloc _).drew) (by have := HWZ.out; simp; omega) (strsV_one _ wr.heap.size y HYS.out (Blk.drew (Blk.new wr 9 #[.string y]))) (by simp; omega) 25; simp only [List.length_singleton] at hrun; refine wp_append_run _ _ 25 (by rfl) (by rfl) (by rfl) (by rfl) hrun ?_; have hbel := items_fin HB.out HR.out hgr; have HC9 := Lib.hid (show w9.cell? ⟨g, off + k, none⟩ = some (.string x) from (items_cell HR.out hgr HGW.out (by have := hg; omega)).trans HCA.out); have HOWN := Lib.hid hown; have HBEL := Lib.hid hbel; clear hown hgr hrun hbel)
            refine hK.out _ _ ?_ (fun hHeld => ?_)
            · (try dsimp only); (first | exact HC9.out | exact HCA.out | exact (World.cell?_alloc_lt _ _ _ HGW.out).trans HCA.out)
            clear hK K
            try simp only [Act.put, List.setIfInBounds_toArray, List.set_cons_zero, List.set_cons_succ]
            refine wpAnyH_take (i := 14) (oi := { dst := some 3, op := Op.assign (Operand.tmp 28), type := 25, pos := "law.go:25", after := #[{ on := 13, ground := Ground.data }, { on := 13, ground := Ground.chain }, { on := 0, ground := Ground.phase }, { on := 1, ground := Ground.phase }, { on := 2, ground := Ground.phase }, { on := 3, ground := Ground.phase }, { on := 4, ground := Ground.phase }, { on := 5, ground := Ground.phase }, { on := 6, ground := Ground.phase }, { on := 7, ground := Ground.phase }, { on := 8, ground := Ground.phase }, { on := 9, ground := Ground.phase }, { on := 10, ground := Ground.phase }, { on := 11, ground := Ground.phase }, { on := 12, ground := Ground.phase }, { on := 13, ground := Ground.phase }], guard := none }) (v := ?_) rfl (by kernel_rfl) (by kernel_rfl) (by kernel_rfl) (fun _ _ _ h => h) (Or.inl ⟨by rfl, ?_⟩) (by assumption) ?_
            rotate_left; · ((intro w hSw; (try dsimp only at hSw); go_simp); try with_reducible rfl)
            try simp only [Act.put, List.setIfInBounds_toArray, List.set_cons_zero, List.set_cons_succ]
            refine wpAnyH_done (by kernel_rfl) ?_ _
            (go_wp2; go_roundw; (case rel => exact ⟨k + 1, by omega, by go_num, Lib.hid (by rw [HTK.out]; exact HOWN.out), HBEL⟩); (case measure => (simp [intOf]; omega)))
          exact AllReadyH.nil
        exact AllReadyH.nil
    · have hk2 : k = min xs.length 66 := by omega
      have hce : cutItems xs = (xs.take k).map cutI := by
        unfold cutItems; rw [hk2, Nat.min_comm, ← List.take_eq_take_min]
      have hr2 := HR.out
      rw [← hce] at hr2
      have HR2 := Lib.hid hr2
      clear hr2 hce hk2
      rcases Nat.lt_or_ge k xs.length with h1 | h1
      · have h2 : (66 : Int) ≤ (k : Int) := by omega
        clear hlt
        go_wp2
        go_ret
        exact ⟨_, rfl, HR2.out, HB.out⟩
      · have h2 : (xs.length : Int) ≤ (k : Int) := by omega
        clear hlt
        go_wp2
        go_ret
        exact ⟨_, rfl, HR2.out, HB.out⟩
end Go.Proofs.YtbcppmcjbcnlbaaDoor
