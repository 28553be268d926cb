/- The walk of the law's Cut. -/
import Derived.Test.YtbcppmcjbcnlbaaDoorSnapR
namespace Go.Proofs.YtbcppmcjbcnlbaaDoor
open Go.RowKit Go.Shelf
attribute [local go_sem ↓] Go.wp_at_zero Go.wp_at_succ

/-- An argument's row of listings. -/
def RowArg (w : World) (a : Option Addr) (V : List SV) : Prop := V ≠ [] → ∃ g off, a = some ⟨g, off, none⟩ ∧ g < w.heap.size ∧ ∀ i (h : i < V.length),
  w.cell? ⟨g, off + i * 3, none⟩ = some (.int .i64 V[i].cur) ∧ w.cell? ⟨g, off + i * 3 + 1, none⟩ = some (.slice V[i].ia V[i].il V[i].ic) ∧ w.cell? ⟨g, off + i * 3 + 2, none⟩ = some (.int .i64 V[i].used)
theorem RowArg.keeps {w w' : World} {a : Option Addr} {V : List SV} (h : RowArg w a V) (hk : Keeps [] w w') : RowArg w' a V := fun hn => by
  obtain ⟨g, off, ha, hg, hat⟩ := h hn
  exact ⟨g, off, ha, Nat.lt_of_lt_of_le hg hk.size, fun i hi => by
    obtain ⟨h0, h1, h2⟩ := hat i hi
    exact ⟨(hk.cell (p := ⟨g, off + i * 3, none⟩) hg (by simp)).trans h0, (hk.cell (p := ⟨g, off + i * 3 + 1, none⟩) hg (by simp)).trans h1, (hk.cell (p := ⟨g, off + i * 3 + 2, none⟩) hg (by simp)).trans h2⟩⟩
def MtA1 (w : World) (v : SV) (s : Sn) : Prop := v.cur = s.cur ∧ v.used = s.used ∧ s.items.length = v.il ∧ StrsArg w v.ia s.items
/-- An argument that is this pool. -/
structure PoolArg (w : World) (a : Option Addr) (V : List SV) (L : List Sn) : Prop where
  small : V.length ≤ 9223372036854775807
  row : RowArg w a V
  len : V.length = L.length
  mt : ∀ i (h : i < V.length) (h' : i < L.length), MtA1 w V[i] L[i]
theorem PoolArg.keeps {w w' : World} {a : Option Addr} {V : List SV} {L : List Sn} (h : PoolArg w a V L) (hk : Keeps [] w w') : PoolArg w' a V L :=
  ⟨h.small, h.row.keeps hk, h.len, fun i h1 h2 => by
    obtain ⟨q1, q2, q3, q4⟩ := h.mt i h1 h2
    exact ⟨q1, q2, q3, q4.keeps hk⟩⟩
def cutSn (s : Sn) : Sn := { s with items := cutItems s.items }
def cutL (l : List Sn) : List Sn := (l.take 5).map cutSn
theorem SRow.far {W : World} {B : Nat} {v : Value} {V : List SV} (h : SRow W B v V) {p : Addr} (hp : p.block < B) (u : Value) : SRow (W.setCell p u) B v V := by
  rcases h with h | ⟨g, off, cap, h1, h2, h3, h4, h5, h6⟩
  · exact .inl h
  · have hb := Below.heap_setCell W p u g (by omega)
    exact .inr ⟨g, off, cap, h1, h2, h3.same hb, h4, h5, h6.same hb⟩
theorem pool_nostr {w : World} {b : Nat} {cs : Array Value} (h : Blk w b 24 cs) : NoStr w [b] := fun k hk cs' fz hh => by
  simp at hk; subst hk
  have h' : w.heap[k]? = some (.cells cs 24 (0, 0)) := h
  rw [h'] at hh
  injection hh with hh; injection hh with _ h3 _
  exact absurd h3 (by decide)

/-- What holds between the rounds. -/
structure CutI (w A : World) (a : Option Addr) (n c : Nat) (next : Int) (v : Value) (V : List SV) (L : List Sn) : Prop where
  b0 : Blk A w.heap.size 24 #[.slice a n c, .int .i64 next]
  b1 : Blk A (w.heap.size + 1) 24 #[.slice none 0 0, .int .i64 0]
  b2 : Blk A (w.heap.size + 1 + 1) 24 #[v, .int .i64 next]
  row : SRow A (w.heap.size + 3) v V
  mt : Mt A V L
  below : Below w.heap.size w A
theorem cut_fin {w wr w5 w9 : World} {a : Option Addr} {n c : Nat} {next : Int} {v v9 : Value} {V' : List SV} {L' : List Sn} {x : SV} {s : Sn} {cs : Array Value} {ty : TypeId}
    (h : CutI w wr a n c next v V' L') (hk : Keeps [] wr w5) (hs : SRow w9 (w.heap.size + 3) v9 (V' ++ [x])) (hst : StrK (w.heap.size + 3) (w5.alloc (.cells cs ty)) w9) (hx : Mt1 w5 x s) :
    Blk w9 (w.heap.size + 1 + 1) 24 #[v, .int .i64 next] ∧ CutI w (w9.setCell ⟨w.heap.size + 1 + 1, 0, none⟩ v9) a n c next v9 (V' ++ [x]) (L' ++ [s]) := by
  have hka := hk.alloc (.cells cs ty)
  have l0 : Blk w9 w.heap.size 24 #[.slice a n c, .int .i64 next] := (hst.low.block _ (by omega)).trans (h.b0.keeps hka (by simp))
  have l1 : Blk w9 (w.heap.size + 1) 24 #[.slice none 0 0, .int .i64 0] := (hst.low.block _ (by omega)).trans (h.b1.keeps hka (by simp))
  have l2 : Blk w9 (w.heap.size + 1 + 1) 24 #[v, .int .i64 next] := (hst.low.block _ (by omega)).trans (h.b2.keeps hka (by simp))
  have hks : Keeps [w.heap.size + 1 + 1] w9 (w9.setCell ⟨w.heap.size + 1 + 1, 0, none⟩ v9) := (Keeps.refl _ w9).setCell (p := ⟨w.heap.size + 1 + 1, 0, none⟩) (.inl (by simp)) v9
  have hm : Mt w9 (V' ++ [x]) (L' ++ [s]) := ((h.mt.keeps hka).strK hst).app ⟨(hx.keeps ((Keeps.refl [] w5).alloc _)).strK hst, trivial⟩
  refine ⟨l2, l0.far (p := ⟨w.heap.size + 1 + 1, 0, none⟩) (by dsimp only; omega) _, l1.far (p := ⟨w.heap.size + 1 + 1, 0, none⟩) (by dsimp only; omega) _, l2.set_ 0 v9, hs.far (p := ⟨w.heap.size + 1 + 1, 0, none⟩) (by dsimp only; omega) _, hm.keepsS hks (pool_nostr l2), ?_⟩
  exact ((h.below.trans (hka.below h.below.size (by simp))).trans (hst.low.mono (by omega))).setCell (p := ⟨w.heap.size + 1 + 1, 0, none⟩) (by dsimp only; omega) _

set_option maxRecDepth 100000 in
set_option maxHeartbeats 8000000 in
theorem cut_any (a : Option Addr) (c : Nat) (V : List SV) (L : List Sn) (n : Nat) (hn : V.length = n) (next : Int) (w : World) (hP : PoolArg w a V L) :
    Calls Tryd.prog 10 #[.agg #[.slice a n c, .int .i64 next]] w fun r w' => ∃ a' n' c' V', r = .returned (.agg #[.slice a' n' c', .int .i64 next]) ∧ V'.length = n' ∧ PoolV w' a' c' V' ⟨cutL L, next⟩ ∧ Keeps [] w w' := by
  have HP := Lib.hid hP
  have HN := Lib.hid hn
  have hsm : n ≤ 9223372036854775807 := by rw [← hn]; exact hP.small
  have HI0 : Hid (CutI w (((w.alloc (.cells #[.slice a n c, .int .i64 next] 24)).alloc (.cells #[.slice none 0 0, .int .i64 0] 24)).alloc (.cells #[.slice none 0 0, .int .i64 next] 24)) a n c next (.slice none 0 0) [] []) := Lib.hid
    ⟨((Blk.new w _ _).alloc _).alloc _, (blk_at _ _ _ _ (by simp)).alloc _, blk_at _ _ _ _ (by simp), .inl ⟨rfl, rfl⟩, trivial, (((Below.refl _ w).alloc (Nat.le_refl _) _).alloc (by simp) _).alloc (by simp; omega) _⟩
  have p1 : (w.alloc (.cells #[.slice a n c, .int .i64 next] 24)).cell? ⟨w.heap.size, 1, none⟩ = some (.int .i64 next) := (Blk.new w 24 #[.slice a n c, .int .i64 next]).cell 1
  clear hP hn
  go_enter Tryd.func10, Tryd.ntmps10
  go_wp2
  go_loopw [4] (fun i wr => ∃ (k : Nat) (v : Value) (V' : List SV), k ≤ n ∧ k ≤ 5 ∧ i = .int .i64 k ∧ V'.length = k ∧ Hid (CutI w wr a n c next v V' ((L.take k).map cutSn))) (fun i _ => 5 - (intOf i).toNat)
  case atStart => exact ⟨0, _, [], Nat.zero_le _, Nat.zero_le _, rfl, rfl, HI0⟩
  case round =>
    obtain ⟨k, v, V', hkn, hk5, rfl, hvk, HI⟩ := hrel
    have HVK := Lib.hid hvk
    have z0 : wr.cell? ⟨w.heap.size, 0, none⟩ = some (.slice a n c) := HI.out.b0.cell 0
    clear hvk p1 HI0
    by_cases hlt : k < n ∧ k < 5
    · obtain ⟨h1, h2⟩ := hlt
      have hk1 : k < V.length := by rw [HN.out]; exact h1
      have hkL : k < L.length := by rw [← HP.out.len]; exact hk1
      obtain ⟨y, hy⟩ : ∃ y, V[k] = y := ⟨_, rfl⟩
      obtain ⟨s, hs⟩ : ∃ s, L[k] = s := ⟨_, rfl⟩
      have hm := HP.out.mt k hk1 hkL
      rw [hy, hs] at hm
      obtain ⟨g, off, rfl, hg, hat⟩ := HP.out.row (by rintro rfl; simp at hk1)
      have q1 := hat k hk1
      rw [hy] at q1
      obtain ⟨p0, p1, p2⟩ := q1
      have hkw := Keeps.of_below HI.out.below []
      rw [← hkw.cell (by exact hg) (by simp)] at p0 p1 p2
      have i1 : (0 : Int) ≤ (k : Int) := by omega
      have i2 : (k : Int) < (n : Int) := by omega
      have i3 : (k : Int) < 5 := by omega
      have HG : Hid (g < w.heap.size) := Lib.hid hg
      have HM1 := Lib.hid hm
      have HSA := Lib.hid (hm.2.2.2.keeps hkw)
      have HLS : Hid (L[k]? = some s) := Lib.hid (by rw [List.getElem?_eq_getElem hkL, hs])
      have z2 : wr.cell? ⟨w.heap.size + 1 + 1, 0, none⟩ = some v := HI.out.b2.cell 0
      have hs4 : wr.cell? ⟨g, off + k * 3, none⟩ = some (.int .i64 y.cur) ∧ wr.cell? ⟨g, off + k * 3 + 1, none⟩ = some (.slice y.ia y.il y.ic) ∧ wr.cell? ⟨g, off + k * 3 + 2, none⟩ = some (.int .i64 y.used) ∧ wr.cell? ⟨w.heap.size, 0, none⟩ = some (.slice (some ⟨g, off, none⟩) n c) := ⟨p0, p1, p2, z0⟩
      have HS4 := Lib.hid hs4
      have HLOW : Hid (∀ w' : World, (∀ j, j < w.heap.size + 1 → w'.heap[j]? = wr.heap[j]?) → w'.cell? ⟨g, off + k * 3, none⟩ = some (.int .i64 y.cur) ∧ w'.cell? ⟨g, off + k * 3 + 1, none⟩ = some (.slice y.ia y.il y.ic) ∧ w'.cell? ⟨g, off + k * 3 + 2, none⟩ = some (.int .i64 y.used) ∧ w'.cell? ⟨w.heap.size, 0, none⟩ = some (.slice (some ⟨g, off, none⟩) n c)) := Lib.hid (fun w' hh => ⟨(World.cell?_of_block (a := ⟨g, off + k * 3, none⟩) (hh g (by omega))).trans p0, (World.cell?_of_block (a := ⟨g, off + k * 3 + 1, none⟩) (hh g (by omega))).trans p1, (World.cell?_of_block (a := ⟨g, off + k * 3 + 2, none⟩) (hh g (by omega))).trans p2, (World.cell?_of_block (a := ⟨w.heap.size, 0, none⟩) (hh w.heap.size (by omega))).trans z0⟩)
      have HWS : Hid (w.heap.size + 3 ≤ wr.heap.size) := Lib.hid (by have := HI.out.b2.lt; omega)
      clear hat hy hs hm hkw hk1 hkL hs4
      go_wp2_with (fail)
      refine wp_region_held_drew (S := (fun w' : World => w'.cell? ⟨g, off + k * 3, none⟩ = some (.int .i64 y.cur) ∧ w'.cell? ⟨g, off + k * 3 + 1, none⟩ = some (.slice y.ia y.il y.ic) ∧ w'.cell? ⟨g, off + k * 3 + 2, none⟩ = some (.int .i64 y.used) ∧ w'.cell? ⟨w.heap.size, 0, none⟩ = some (.slice (some ⟨g, off, none⟩) n c))) (by kernel_rfl) ?_ (fun hHeld => ?_)
      · (try dsimp only); (first | exact HS9u.out _ | exact HS9.out | exact HLOW.out _ (fun j hj => (HK5.out.alloc _).block j (by have := HWS.out; omega) (by simp)) | exact HLOW.out _ (fun j hj => HK5.out.block j (by have := HWS.out; omega) (by simp)) | exact HLOW.out _ (fun _ _ => rfl))
      refine wpAnyH_take (i := 0) (oi := { dst := some 19, op := Op.fieldAddr 24 (Operand.tmp 3) 0, type := 0, pos := "law.go:33", after := #[], guard := none }) (v := ?_) rfl (by kernel_rfl) (by kernel_rfl) (by kernel_rfl) (fun _ _ _ h => h) (Or.inl ⟨by rfl, ?_⟩) (by assumption) ?_
      rotate_left; · ((intro w hSw; (try dsimp only at hSw); go_simp); try with_reducible rfl)
      try simp only [Act.put, List.setIfInBounds_toArray, List.set_cons_zero, List.set_cons_succ]
      refine wpAnyH_take (i := 2) (oi := { dst := some 21, op := Op.fieldAddr 24 (Operand.tmp 1) 0, type := 0, pos := "law.go:33", after := #[], guard := none }) (v := ?_) rfl (by kernel_rfl) (by kernel_rfl) (by kernel_rfl) (fun _ _ _ h => h) (Or.inl ⟨by rfl, ?_⟩) (by assumption) ?_
      rotate_left; · ((intro w hSw; (try dsimp only at hSw); go_simp); try with_reducible rfl)
      try simp only [Act.put, List.setIfInBounds_toArray, List.set_cons_zero, List.set_cons_succ]
      refine wpAnyH_take (i := 3) (oi := { dst := some 22, op := Op.load 22 (Operand.tmp 21), type := 22, pos := "law.go:33", after := #[{ on := 2, ground := Ground.data }], guard := none }) (v := ?_) rfl (by kernel_rfl) (by kernel_rfl) (by kernel_rfl) (fun _ _ _ h => h) (Or.inl ⟨by rfl, ?_⟩) (by assumption) ?_
      rotate_left; · ((intro w hSw; (try dsimp only at hSw); go_simp); try with_reducible rfl)
      try simp only [Act.put, List.setIfInBounds_toArray, List.set_cons_zero, List.set_cons_succ]
      refine wpAnyH_take (i := 4) (oi := { dst := some 23, op := Op.move (Operand.tmp 4), type := 3, pos := "law.go:33", after := #[], guard := none }) (v := ?_) rfl (by kernel_rfl) (by kernel_rfl) (by kernel_rfl) (fun _ _ _ h => h) (Or.inl ⟨by rfl, ?_⟩) (by assumption) ?_
      rotate_left; · ((intro w hSw; (try dsimp only at hSw); go_simp); try with_reducible rfl)
      try simp only [Act.put, List.setIfInBounds_toArray, List.set_cons_zero, List.set_cons_succ]
      refine wpAnyH_take (i := 5) (oi := { dst := some 24, op := Op.indexAddr 22 (Operand.tmp 22) (Operand.tmp 23), type := 0, pos := "law.go:33", after := #[{ on := 3, ground := Ground.data }, { on := 4, ground := Ground.data }], guard := none }) (v := ?_) rfl (by kernel_rfl) (by kernel_rfl) (by kernel_rfl) (fun _ _ _ h => h) (Or.inl ⟨by rfl, ?_⟩) (by assumption) ?_
      rotate_left; · ((intro w hSw; (try dsimp only at hSw); go_simp); try with_reducible rfl)
      try simp only [Act.put, List.setIfInBounds_toArray, List.set_cons_zero, List.set_cons_succ]
      refine wpAnyH_take (i := 6) (oi := { dst := some 25, op := Op.fieldAddr 39 (Operand.tmp 24) 0, type := 0, pos := "law.go:33", after := #[{ on := 5, ground := Ground.data }], guard := none }) (v := ?_) rfl (by kernel_rfl) (by kernel_rfl) (by kernel_rfl) (fun _ _ _ h => h) (Or.inl ⟨by rfl, ?_⟩) (by assumption) ?_
      rotate_left; · ((intro w hSw; (try dsimp only at hSw); go_simp); try with_reducible rfl)
      try simp only [Act.put, List.setIfInBounds_toArray, List.set_cons_zero, List.set_cons_succ]
      refine wpAnyH_take (i := 7) (oi := { dst := some 26, op := Op.load 3 (Operand.tmp 25), type := 3, pos := "law.go:33", after := #[{ on := 6, ground := Ground.data }], guard := none }) (v := ?_) rfl (by kernel_rfl) (by kernel_rfl) (by kernel_rfl) (fun _ _ _ h => h) (Or.inl ⟨by rfl, ?_⟩) (by assumption) ?_
      rotate_left; · ((intro w hSw; (try dsimp only at hSw); go_simp); try with_reducible rfl)
      try simp only [Act.put, List.setIfInBounds_toArray, List.set_cons_zero, List.set_cons_succ]
      refine wpAnyH_take (i := 8) (oi := { dst := some 27, op := Op.fieldAddr 24 (Operand.tmp 1) 0, type := 0, pos := "law.go:33", after := #[], guard := none }) (v := ?_) rfl (by kernel_rfl) (by kernel_rfl) (by kernel_rfl) (fun _ _ _ h => h) (Or.inl ⟨by rfl, ?_⟩) (by assumption) ?_
      rotate_left; · ((intro w hSw; (try dsimp only at hSw); go_simp); try with_reducible rfl)
      try simp only [Act.put, List.setIfInBounds_toArray, List.set_cons_zero, List.set_cons_succ]
      refine wpAnyH_take (i := 9) (oi := { dst := some 28, op := Op.load 22 (Operand.tmp 27), type := 22, pos := "law.go:33", after := #[{ on := 8, ground := Ground.data }], guard := none }) (v := ?_) rfl (by kernel_rfl) (by kernel_rfl) (by kernel_rfl) (fun _ _ _ h => h) (Or.inl ⟨by rfl, ?_⟩) (by assumption) ?_
      rotate_left; · ((intro w hSw; (try dsimp only at hSw); go_simp); try with_reducible rfl)
      try simp only [Act.put, List.setIfInBounds_toArray, List.set_cons_zero, List.set_cons_succ]
      refine wpAnyH_take (i := 10) (oi := { dst := some 29, op := Op.move (Operand.tmp 4), type := 3, pos := "law.go:33", after := #[], guard := none }) (v := ?_) rfl (by kernel_rfl) (by kernel_rfl) (by kernel_rfl) (fun _ _ _ h => h) (Or.inl ⟨by rfl, ?_⟩) (by assumption) ?_
      rotate_left; · ((intro w hSw; (try dsimp only at hSw); go_simp); try with_reducible rfl)
      try simp only [Act.put, List.setIfInBounds_toArray, List.set_cons_zero, List.set_cons_succ]
      refine wpAnyH_take (i := 11) (oi := { dst := some 30, op := Op.indexAddr 22 (Operand.tmp 28) (Operand.tmp 29), type := 0, pos := "law.go:33", after := #[{ on := 9, ground := Ground.data }, { on := 10, ground := Ground.data }], guard := none }) (v := ?_) rfl (by kernel_rfl) (by kernel_rfl) (by kernel_rfl) (fun _ _ _ h => h) (Or.inl ⟨by rfl, ?_⟩) (by assumption) ?_
      rotate_left; · ((intro w hSw; (try dsimp only at hSw); go_simp); try with_reducible rfl)
      try simp only [Act.put, List.setIfInBounds_toArray, List.set_cons_zero, List.set_cons_succ]
      refine wpAnyH_take (i := 12) (oi := { dst := some 31, op := Op.fieldAddr 39 (Operand.tmp 30) 1, type := 0, pos := "law.go:33", after := #[{ on := 11, ground := Ground.data }], guard := none }) (v := ?_) rfl (by kernel_rfl) (by kernel_rfl) (by kernel_rfl) (fun _ _ _ h => h) (Or.inl ⟨by rfl, ?_⟩) (by assumption) ?_
      rotate_left; · ((intro w hSw; (try dsimp only at hSw); go_simp); try with_reducible rfl)
      try simp only [Act.put, List.setIfInBounds_toArray, List.set_cons_zero, List.set_cons_succ]
      refine wpAnyH_take (i := 13) (oi := { dst := some 32, op := Op.load 25 (Operand.tmp 31), type := 25, pos := "law.go:33", after := #[{ on := 12, ground := Ground.data }], guard := none }) (v := ?_) rfl (by kernel_rfl) (by kernel_rfl) (by kernel_rfl) (fun _ _ _ h => h) (Or.inl ⟨by rfl, ?_⟩) (by assumption) ?_
      rotate_left; · ((intro w hSw; (try dsimp only at hSw); go_simp); try with_reducible rfl)
      try simp only [Act.put, List.setIfInBounds_toArray, List.set_cons_zero, List.set_cons_succ]
      refine wpAnyH_take (i := 15) (oi := { dst := some 34, op := Op.fieldAddr 24 (Operand.tmp 1) 0, type := 0, pos := "law.go:33", after := #[], guard := none }) (v := ?_) rfl (by kernel_rfl) (by kernel_rfl) (by kernel_rfl) (fun _ _ _ h => h) (Or.inl ⟨by rfl, ?_⟩) (by assumption) ?_
      rotate_left; · ((intro w hSw; (try dsimp only at hSw); go_simp); try with_reducible rfl)
      try simp only [Act.put, List.setIfInBounds_toArray, List.set_cons_zero, List.set_cons_succ]
      refine wpAnyH_take (i := 16) (oi := { dst := some 35, op := Op.load 22 (Operand.tmp 34), type := 22, pos := "law.go:33", after := #[{ on := 15, ground := Ground.data }], guard := none }) (v := ?_) rfl (by kernel_rfl) (by kernel_rfl) (by kernel_rfl) (fun _ _ _ h => h) (Or.inl ⟨by rfl, ?_⟩) (by assumption) ?_
      rotate_left; · ((intro w hSw; (try dsimp only at hSw); go_simp); try with_reducible rfl)
      try simp only [Act.put, List.setIfInBounds_toArray, List.set_cons_zero, List.set_cons_succ]
      refine wpAnyH_take (i := 17) (oi := { dst := some 36, op := Op.move (Operand.tmp 4), type := 3, pos := "law.go:33", after := #[], guard := none }) (v := ?_) rfl (by kernel_rfl) (by kernel_rfl) (by kernel_rfl) (fun _ _ _ h => h) (Or.inl ⟨by rfl, ?_⟩) (by assumption) ?_
      rotate_left; · ((intro w hSw; (try dsimp only at hSw); go_simp); try with_reducible rfl)
      try simp only [Act.put, List.setIfInBounds_toArray, List.set_cons_zero, List.set_cons_succ]
      refine wpAnyH_take (i := 18) (oi := { dst := some 37, op := Op.indexAddr 22 (Operand.tmp 35) (Operand.tmp 36), type := 0, pos := "law.go:33", after := #[{ on := 16, ground := Ground.data }, { on := 17, ground := Ground.data }], guard := none }) (v := ?_) rfl (by kernel_rfl) (by kernel_rfl) (by kernel_rfl) (fun _ _ _ h => h) (Or.inl ⟨by rfl, ?_⟩) (by assumption) ?_
      rotate_left; · ((intro w hSw; (try dsimp only at hSw); go_simp); try with_reducible rfl)
      try simp only [Act.put, List.setIfInBounds_toArray, List.set_cons_zero, List.set_cons_succ]
      refine wpAnyH_take (i := 19) (oi := { dst := some 38, op := Op.fieldAddr 39 (Operand.tmp 37) 2, type := 0, pos := "law.go:33", after := #[{ on := 18, ground := Ground.data }], guard := none }) (v := ?_) rfl (by kernel_rfl) (by kernel_rfl) (by kernel_rfl) (fun _ _ _ h => h) (Or.inl ⟨by rfl, ?_⟩) (by assumption) ?_
      rotate_left; · ((intro w hSw; (try dsimp only at hSw); go_simp); try with_reducible rfl)
      try simp only [Act.put, List.setIfInBounds_toArray, List.set_cons_zero, List.set_cons_succ]
      refine wpAnyH_take (i := 20) (oi := { dst := some 39, op := Op.load 3 (Operand.tmp 38), type := 3, pos := "law.go:33", after := #[{ on := 19, ground := Ground.data }], guard := none }) (v := ?_) rfl (by kernel_rfl) (by kernel_rfl) (by kernel_rfl) (fun _ _ _ h => h) (Or.inl ⟨by rfl, ?_⟩) (by assumption) ?_
      rotate_left; · ((intro w hSw; (try dsimp only at hSw); go_simp); try with_reducible rfl)
      try simp only [Act.put, List.setIfInBounds_toArray, List.set_cons_zero, List.set_cons_succ]
      refine wpAnyH_ready (rs := [1, 14]) (by kernel_rfl) (by simp) ?_
      refine AllReadyH.cons rfl (fun K hK => ?_) ?_
      · go_simp
        refine hK.out _ _ ?_ (fun hHeld => ?_)
        · (try dsimp only); (first | exact HS9u.out _ | exact HS9.out | exact HLOW.out _ (fun j hj => (HK5.out.alloc _).block j (by have := HWS.out; omega) (by simp)) | exact HLOW.out _ (fun j hj => HK5.out.block j (by have := HWS.out; omega) (by simp)) | exact HLOW.out _ (fun _ _ => rfl))
        clear hK K
        try simp only [Act.put, List.setIfInBounds_toArray, List.set_cons_zero, List.set_cons_succ]
        refine wpAnyH_ready (rs := [14]) (by kernel_rfl) (by simp) ?_
        refine AllReadyH.cons rfl (fun K hK => ?_) ?_
        · go_simp
          (first | ((refine (items_any y.ia y.ic s.items y.il HM1.out.2.2.1 _ (HSA.out.keeps ((Keeps.refl [] wr).drew))).mono ?_); rintro e5 w5 ⟨a5, m5, c5, rfl, hm5, hst5, hk5⟩; have HK5 := Lib.hid (((Keeps.refl [] wr).drew).trans hk5); have HST5 := Lib.hid hst5; have HM5 := Lib.hid hm5; have z5 : w5.cell? ⟨w.heap.size + 1 + 1, 0, none⟩ = some v := (HI.out.b2.keeps HK5.out (by simp)).cell 0; have z5a : ∀ o, (w5.alloc o).cell? ⟨w.heap.size + 1 + 1, 0, none⟩ = some v := fun o => ((HI.out.b2.keeps HK5.out (by simp)).alloc o).cell 0; clear hst5 hk5 hm5) | (obtain ⟨v9, w9, hrun, hs9, hk9⟩ := SRow.push ((HI.out.row.keeps HK5.out).keeps ((Keeps.refl [] w5).alloc (.cells (SV.arr (⟨y.cur, a5, m5, c5, y.used⟩ : SV)) 39))) (by rw [HVK.out]; omega) (by have := HK5.out.size; have := HWS.out; simp; omega) w5.heap.size (⟨y.cur, a5, m5, c5, y.used⟩ : SV) (Blk.new w5 39 (SV.arr (⟨y.cur, a5, m5, c5, y.used⟩ : SV))) 22; obtain ⟨a9, c9, h9, _, _⟩ := hs9.row; obtain ⟨n9, hn9⟩ : ∃ n9, (V' ++ [(⟨y.cur, a5, m5, c5, y.used⟩ : SV)]).length = n9 := ⟨_, rfl⟩; rw [hn9] at h9; subst h9; clear hn9; have hc9 := cut_fin (s := cutSn s) HI.out HK5.out hs9 hk9 ⟨HM1.out.1, HM1.out.2.1, HM5.out.symm, HST5.out⟩; simp only [SV.arr] at hrun; refine wp_append_run _ _ 22 (by rfl) (by rfl) (by rfl) (by rfl) hrun ?_; have z9 : w9.cell? ⟨w.heap.size + 1 + 1, 0, none⟩ = some v := hc9.1.cell 0; have f9 := hc9.1.frozen 0; have HC9 := Lib.hid hc9.2; have HS9 := Lib.hid (HLOW.out w9 (fun j hj => (hk9.low.block j (by omega)).trans ((HK5.out.alloc _).block j (by have := HWS.out; omega) (by simp)))); have HS9u := Lib.hid (fun u => HLOW.out (w9.setCell ⟨w.heap.size + 1 + 1, 0, none⟩ u) (fun j hj => (Below.heap_setCell _ _ _ _ (by dsimp only; omega)).trans ((hk9.low.block j (by omega)).trans ((HK5.out.alloc _).block j (by have := HWS.out; omega) (by simp))))); clear hs9 hk9 hc9 hrun))
          refine hK.out _ _ ?_ (fun hHeld => ?_)
          · (try dsimp only); (first | exact HS9u.out _ | exact HS9.out | exact HLOW.out _ (fun j hj => (HK5.out.alloc _).block j (by have := HWS.out; omega) (by simp)) | exact HLOW.out _ (fun j hj => HK5.out.block j (by have := HWS.out; omega) (by simp)) | exact HLOW.out _ (fun _ _ => rfl))
          clear hK K
          try simp only [Act.put, List.setIfInBounds_toArray, List.set_cons_zero, List.set_cons_succ]
          refine wpAnyH_take (i := 21) (oi := { dst := some 40, op := Op.build 39 #[(0, Operand.tmp 26), (1, Operand.tmp 33), (2, Operand.tmp 39)], type := 39, pos := "law.go:33", after := #[{ on := 7, ground := Ground.data }, { on := 14, ground := Ground.data }, { on := 20, ground := Ground.data }], guard := none }) (v := ?_) rfl (by kernel_rfl) (by kernel_rfl) (by kernel_rfl) (fun _ _ _ h => h) (Or.inl ⟨by rfl, ?_⟩) (by assumption) ?_
          rotate_left; · ((intro w hSw; (try dsimp only at hSw); go_simp); try with_reducible rfl)
          try simp only [Act.put, List.setIfInBounds_toArray, List.set_cons_zero, List.set_cons_succ]
          refine wpAnyH_ready (rs := [22]) (by kernel_rfl) (by simp) ?_
          refine AllReadyH.cons rfl (fun K hK => ?_) ?_
          · go_simp
            refine hK.out _ _ ?_ (fun hHeld => ?_)
            · (try dsimp only); (first | exact HS9u.out _ | exact HS9.out | exact HLOW.out _ (fun j hj => (HK5.out.alloc _).block j (by have := HWS.out; omega) (by simp)) | exact HLOW.out _ (fun j hj => HK5.out.block j (by have := HWS.out; omega) (by simp)) | exact HLOW.out _ (fun _ _ => rfl))
            clear hK K
            try simp only [Act.put, List.setIfInBounds_toArray, List.set_cons_zero, List.set_cons_succ]
            refine wpAnyH_ready (rs := [23]) (by kernel_rfl) (by simp) ?_
            refine AllReadyH.cons rfl (fun K hK => ?_) ?_
            · skip
              (first | ((refine (items_any y.ia y.ic s.items y.il HM1.out.2.2.1 _ (HSA.out.keeps ((Keeps.refl [] wr).drew))).mono ?_); rintro e5 w5 ⟨a5, m5, c5, rfl, hm5, hst5, hk5⟩; have HK5 := Lib.hid (((Keeps.refl [] wr).drew).trans hk5); have HST5 := Lib.hid hst5; have HM5 := Lib.hid hm5; have z5 : w5.cell? ⟨w.heap.size + 1 + 1, 0, none⟩ = some v := (HI.out.b2.keeps HK5.out (by simp)).cell 0; have z5a : ∀ o, (w5.alloc o).cell? ⟨w.heap.size + 1 + 1, 0, none⟩ = some v := fun o => ((HI.out.b2.keeps HK5.out (by simp)).alloc o).cell 0; clear hst5 hk5 hm5) | (obtain ⟨v9, w9, hrun, hs9, hk9⟩ := SRow.push ((HI.out.row.keeps HK5.out).keeps ((Keeps.refl [] w5).alloc (.cells (SV.arr (⟨y.cur, a5, m5, c5, y.used⟩ : SV)) 39))) (by rw [HVK.out]; omega) (by have := HK5.out.size; have := HWS.out; simp; omega) w5.heap.size (⟨y.cur, a5, m5, c5, y.used⟩ : SV) (Blk.new w5 39 (SV.arr (⟨y.cur, a5, m5, c5, y.used⟩ : SV))) 22; obtain ⟨a9, c9, h9, _, _⟩ := hs9.row; obtain ⟨n9, hn9⟩ : ∃ n9, (V' ++ [(⟨y.cur, a5, m5, c5, y.used⟩ : SV)]).length = n9 := ⟨_, rfl⟩; rw [hn9] at h9; subst h9; clear hn9; have hc9 := cut_fin (s := cutSn s) HI.out HK5.out hs9 hk9 ⟨HM1.out.1, HM1.out.2.1, HM5.out.symm, HST5.out⟩; simp only [SV.arr] at hrun; refine wp_append_run _ _ 22 (by rfl) (by rfl) (by rfl) (by rfl) hrun ?_; have z9 : w9.cell? ⟨w.heap.size + 1 + 1, 0, none⟩ = some v := hc9.1.cell 0; have f9 := hc9.1.frozen 0; have HC9 := Lib.hid hc9.2; have HS9 := Lib.hid (HLOW.out w9 (fun j hj => (hk9.low.block j (by omega)).trans ((HK5.out.alloc _).block j (by have := HWS.out; omega) (by simp)))); have HS9u := Lib.hid (fun u => HLOW.out (w9.setCell ⟨w.heap.size + 1 + 1, 0, none⟩ u) (fun j hj => (Below.heap_setCell _ _ _ _ (by dsimp only; omega)).trans ((hk9.low.block j (by omega)).trans ((HK5.out.alloc _).block j (by have := HWS.out; omega) (by simp))))); clear hs9 hk9 hc9 hrun))
              refine hK.out _ _ ?_ (fun hHeld => ?_)
              · (try dsimp only); (first | exact HS9u.out _ | exact HS9.out | exact HLOW.out _ (fun j hj => (HK5.out.alloc _).block j (by have := HWS.out; omega) (by simp)) | exact HLOW.out _ (fun j hj => HK5.out.block j (by have := HWS.out; omega) (by simp)) | exact HLOW.out _ (fun _ _ => rfl))
              clear hK K
              try simp only [Act.put, List.setIfInBounds_toArray, List.set_cons_zero, List.set_cons_succ]
              refine wpAnyH_take (i := 24) (oi := { dst := some 43, op := Op.fieldAddr 24 (Operand.tmp 3) 0, type := 0, pos := "law.go:33", after := #[{ on := 0, ground := Ground.phase }, { on := 1, ground := Ground.phase }, { on := 2, ground := Ground.phase }, { on := 3, ground := Ground.phase }, { on := 4, ground := Ground.phase }, { on := 5, ground := Ground.phase }, { on := 6, ground := Ground.phase }, { on := 7, ground := Ground.phase }, { on := 8, ground := Ground.phase }, { on := 9, ground := Ground.phase }, { on := 10, ground := Ground.phase }, { on := 11, ground := Ground.phase }, { on := 12, ground := Ground.phase }, { on := 13, ground := Ground.phase }, { on := 14, ground := Ground.phase }, { on := 15, ground := Ground.phase }, { on := 16, ground := Ground.phase }, { on := 17, ground := Ground.phase }, { on := 18, ground := Ground.phase }, { on := 19, ground := Ground.phase }, { on := 20, ground := Ground.phase }, { on := 21, ground := Ground.phase }, { on := 22, ground := Ground.phase }, { on := 23, ground := Ground.phase }], guard := none }) (v := ?_) rfl (by kernel_rfl) (by kernel_rfl) (by kernel_rfl) (fun _ _ _ h => h) (Or.inl ⟨by rfl, ?_⟩) (by assumption) ?_
              rotate_left; · ((intro w hSw; (try dsimp only at hSw); go_simp); try with_reducible rfl)
              try simp only [Act.put, List.setIfInBounds_toArray, List.set_cons_zero, List.set_cons_succ]
              refine wpAnyH_ready (rs := [25]) (by kernel_rfl) (by simp) ?_
              refine AllReadyH.cons rfl (fun K hK => ?_) ?_
              · go_simp
                refine hK.out _ _ ?_ (fun hHeld => ?_)
                · (try dsimp only); (first | exact HS9u.out _ | exact HS9.out | exact HLOW.out _ (fun j hj => (HK5.out.alloc _).block j (by have := HWS.out; omega) (by simp)) | exact HLOW.out _ (fun j hj => HK5.out.block j (by have := HWS.out; omega) (by simp)) | exact HLOW.out _ (fun _ _ => rfl))
                clear hK K
                try simp only [Act.put, List.setIfInBounds_toArray, List.set_cons_zero, List.set_cons_succ]
                refine wpAnyH_done (by kernel_rfl) ?_ _
                (go_wp2; go_roundw; (case rel => exact ⟨k + 1, _, V' ++ [⟨y.cur, a5, m5, c5, y.used⟩], by omega, by omega, by go_num, by rw [List.length_append, HVK.out]; rfl, by rw [take_snoc HLS.out, List.map_append]; exact HC9⟩); (case measure => (simp [intOf]; omega)))
              exact AllReadyH.nil
            exact AllReadyH.nil
          exact AllReadyH.nil
        exact AllReadyH.nil
      refine AllReadyH.cons rfl (fun K hK => ?_) ?_
      · go_simp
        (first | ((refine (items_any y.ia y.ic s.items y.il HM1.out.2.2.1 _ (HSA.out.keeps ((Keeps.refl [] wr).drew))).mono ?_); rintro e5 w5 ⟨a5, m5, c5, rfl, hm5, hst5, hk5⟩; have HK5 := Lib.hid (((Keeps.refl [] wr).drew).trans hk5); have HST5 := Lib.hid hst5; have HM5 := Lib.hid hm5; have z5 : w5.cell? ⟨w.heap.size + 1 + 1, 0, none⟩ = some v := (HI.out.b2.keeps HK5.out (by simp)).cell 0; have z5a : ∀ o, (w5.alloc o).cell? ⟨w.heap.size + 1 + 1, 0, none⟩ = some v := fun o => ((HI.out.b2.keeps HK5.out (by simp)).alloc o).cell 0; clear hst5 hk5 hm5) | (obtain ⟨v9, w9, hrun, hs9, hk9⟩ := SRow.push ((HI.out.row.keeps HK5.out).keeps ((Keeps.refl [] w5).alloc (.cells (SV.arr (⟨y.cur, a5, m5, c5, y.used⟩ : SV)) 39))) (by rw [HVK.out]; omega) (by have := HK5.out.size; have := HWS.out; simp; omega) w5.heap.size (⟨y.cur, a5, m5, c5, y.used⟩ : SV) (Blk.new w5 39 (SV.arr (⟨y.cur, a5, m5, c5, y.used⟩ : SV))) 22; obtain ⟨a9, c9, h9, _, _⟩ := hs9.row; obtain ⟨n9, hn9⟩ : ∃ n9, (V' ++ [(⟨y.cur, a5, m5, c5, y.used⟩ : SV)]).length = n9 := ⟨_, rfl⟩; rw [hn9] at h9; subst h9; clear hn9; have hc9 := cut_fin (s := cutSn s) HI.out HK5.out hs9 hk9 ⟨HM1.out.1, HM1.out.2.1, HM5.out.symm, HST5.out⟩; simp only [SV.arr] at hrun; refine wp_append_run _ _ 22 (by rfl) (by rfl) (by rfl) (by rfl) hrun ?_; have z9 : w9.cell? ⟨w.heap.size + 1 + 1, 0, none⟩ = some v := hc9.1.cell 0; have f9 := hc9.1.frozen 0; have HC9 := Lib.hid hc9.2; have HS9 := Lib.hid (HLOW.out w9 (fun j hj => (hk9.low.block j (by omega)).trans ((HK5.out.alloc _).block j (by have := HWS.out; omega) (by simp)))); have HS9u := Lib.hid (fun u => HLOW.out (w9.setCell ⟨w.heap.size + 1 + 1, 0, none⟩ u) (fun j hj => (Below.heap_setCell _ _ _ _ (by dsimp only; omega)).trans ((hk9.low.block j (by omega)).trans ((HK5.out.alloc _).block j (by have := HWS.out; omega) (by simp))))); clear hs9 hk9 hc9 hrun))
        refine hK.out _ _ ?_ (fun hHeld => ?_)
        · (try dsimp only); (first | exact HS9u.out _ | exact HS9.out | exact HLOW.out _ (fun j hj => (HK5.out.alloc _).block j (by have := HWS.out; omega) (by simp)) | exact HLOW.out _ (fun j hj => HK5.out.block j (by have := HWS.out; omega) (by simp)) | exact HLOW.out _ (fun _ _ => rfl))
        clear hK K
        try simp only [Act.put, List.setIfInBounds_toArray, List.set_cons_zero, List.set_cons_succ]
        refine wpAnyH_take (i := 21) (oi := { dst := some 40, op := Op.build 39 #[(0, Operand.tmp 26), (1, Operand.tmp 33), (2, Operand.tmp 39)], type := 39, pos := "law.go:33", after := #[{ on := 7, ground := Ground.data }, { on := 14, ground := Ground.data }, { on := 20, ground := Ground.data }], guard := none }) (v := ?_) rfl (by kernel_rfl) (by kernel_rfl) (by kernel_rfl) (fun _ _ _ h => h) (Or.inl ⟨by rfl, ?_⟩) (by assumption) ?_
        rotate_left; · ((intro w hSw; (try dsimp only at hSw); go_simp); try with_reducible rfl)
        try simp only [Act.put, List.setIfInBounds_toArray, List.set_cons_zero, List.set_cons_succ]
        refine wpAnyH_ready (rs := [1, 22]) (by kernel_rfl) (by simp) ?_
        refine AllReadyH.cons rfl (fun K hK => ?_) ?_
        · go_simp
          refine hK.out _ _ ?_ (fun hHeld => ?_)
          · (try dsimp only); (first | exact HS9u.out _ | exact HS9.out | exact HLOW.out _ (fun j hj => (HK5.out.alloc _).block j (by have := HWS.out; omega) (by simp)) | exact HLOW.out _ (fun j hj => HK5.out.block j (by have := HWS.out; omega) (by simp)) | exact HLOW.out _ (fun _ _ => rfl))
          clear hK K
          try simp only [Act.put, List.setIfInBounds_toArray, List.set_cons_zero, List.set_cons_succ]
          refine wpAnyH_ready (rs := [22]) (by kernel_rfl) (by simp) ?_
          refine AllReadyH.cons rfl (fun K hK => ?_) ?_
          · go_simp
            refine hK.out _ _ ?_ (fun hHeld => ?_)
            · (try dsimp only); (first | exact HS9u.out _ | exact HS9.out | exact HLOW.out _ (fun j hj => (HK5.out.alloc _).block j (by have := HWS.out; omega) (by simp)) | exact HLOW.out _ (fun j hj => HK5.out.block j (by have := HWS.out; omega) (by simp)) | exact HLOW.out _ (fun _ _ => rfl))
            clear hK K
            try simp only [Act.put, List.setIfInBounds_toArray, List.set_cons_zero, List.set_cons_succ]
            refine wpAnyH_ready (rs := [23]) (by kernel_rfl) (by simp) ?_
            refine AllReadyH.cons rfl (fun K hK => ?_) ?_
            · skip
              (first | ((refine (items_any y.ia y.ic s.items y.il HM1.out.2.2.1 _ (HSA.out.keeps ((Keeps.refl [] wr).drew))).mono ?_); rintro e5 w5 ⟨a5, m5, c5, rfl, hm5, hst5, hk5⟩; have HK5 := Lib.hid (((Keeps.refl [] wr).drew).trans hk5); have HST5 := Lib.hid hst5; have HM5 := Lib.hid hm5; have z5 : w5.cell? ⟨w.heap.size + 1 + 1, 0, none⟩ = some v := (HI.out.b2.keeps HK5.out (by simp)).cell 0; have z5a : ∀ o, (w5.alloc o).cell? ⟨w.heap.size + 1 + 1, 0, none⟩ = some v := fun o => ((HI.out.b2.keeps HK5.out (by simp)).alloc o).cell 0; clear hst5 hk5 hm5) | (obtain ⟨v9, w9, hrun, hs9, hk9⟩ := SRow.push ((HI.out.row.keeps HK5.out).keeps ((Keeps.refl [] w5).alloc (.cells (SV.arr (⟨y.cur, a5, m5, c5, y.used⟩ : SV)) 39))) (by rw [HVK.out]; omega) (by have := HK5.out.size; have := HWS.out; simp; omega) w5.heap.size (⟨y.cur, a5, m5, c5, y.used⟩ : SV) (Blk.new w5 39 (SV.arr (⟨y.cur, a5, m5, c5, y.used⟩ : SV))) 22; obtain ⟨a9, c9, h9, _, _⟩ := hs9.row; obtain ⟨n9, hn9⟩ : ∃ n9, (V' ++ [(⟨y.cur, a5, m5, c5, y.used⟩ : SV)]).length = n9 := ⟨_, rfl⟩; rw [hn9] at h9; subst h9; clear hn9; have hc9 := cut_fin (s := cutSn s) HI.out HK5.out hs9 hk9 ⟨HM1.out.1, HM1.out.2.1, HM5.out.symm, HST5.out⟩; simp only [SV.arr] at hrun; refine wp_append_run _ _ 22 (by rfl) (by rfl) (by rfl) (by rfl) hrun ?_; have z9 : w9.cell? ⟨w.heap.size + 1 + 1, 0, none⟩ = some v := hc9.1.cell 0; have f9 := hc9.1.frozen 0; have HC9 := Lib.hid hc9.2; have HS9 := Lib.hid (HLOW.out w9 (fun j hj => (hk9.low.block j (by omega)).trans ((HK5.out.alloc _).block j (by have := HWS.out; omega) (by simp)))); have HS9u := Lib.hid (fun u => HLOW.out (w9.setCell ⟨w.heap.size + 1 + 1, 0, none⟩ u) (fun j hj => (Below.heap_setCell _ _ _ _ (by dsimp only; omega)).trans ((hk9.low.block j (by omega)).trans ((HK5.out.alloc _).block j (by have := HWS.out; omega) (by simp))))); clear hs9 hk9 hc9 hrun))
              refine hK.out _ _ ?_ (fun hHeld => ?_)
              · (try dsimp only); (first | exact HS9u.out _ | exact HS9.out | exact HLOW.out _ (fun j hj => (HK5.out.alloc _).block j (by have := HWS.out; omega) (by simp)) | exact HLOW.out _ (fun j hj => HK5.out.block j (by have := HWS.out; omega) (by simp)) | exact HLOW.out _ (fun _ _ => rfl))
              clear hK K
              try simp only [Act.put, List.setIfInBounds_toArray, List.set_cons_zero, List.set_cons_succ]
              refine wpAnyH_take (i := 24) (oi := { dst := some 43, op := Op.fieldAddr 24 (Operand.tmp 3) 0, type := 0, pos := "law.go:33", after := #[{ on := 0, ground := Ground.phase }, { on := 1, ground := Ground.phase }, { on := 2, ground := Ground.phase }, { on := 3, ground := Ground.phase }, { on := 4, ground := Ground.phase }, { on := 5, ground := Ground.phase }, { on := 6, ground := Ground.phase }, { on := 7, ground := Ground.phase }, { on := 8, ground := Ground.phase }, { on := 9, ground := Ground.phase }, { on := 10, ground := Ground.phase }, { on := 11, ground := Ground.phase }, { on := 12, ground := Ground.phase }, { on := 13, ground := Ground.phase }, { on := 14, ground := Ground.phase }, { on := 15, ground := Ground.phase }, { on := 16, ground := Ground.phase }, { on := 17, ground := Ground.phase }, { on := 18, ground := Ground.phase }, { on := 19, ground := Ground.phase }, { on := 20, ground := Ground.phase }, { on := 21, ground := Ground.phase }, { on := 22, ground := Ground.phase }, { on := 23, ground := Ground.phase }], guard := none }) (v := ?_) rfl (by kernel_rfl) (by kernel_rfl) (by kernel_rfl) (fun _ _ _ h => h) (Or.inl ⟨by rfl, ?_⟩) (by assumption) ?_
              rotate_left; · ((intro w hSw; (try dsimp only at hSw); go_simp); try with_reducible rfl)
              try simp only [Act.put, List.setIfInBounds_toArray, List.set_cons_zero, List.set_cons_succ]
              refine wpAnyH_ready (rs := [25]) (by kernel_rfl) (by simp) ?_
              refine AllReadyH.cons rfl (fun K hK => ?_) ?_
              · go_simp
                refine hK.out _ _ ?_ (fun hHeld => ?_)
                · (try dsimp only); (first | exact HS9u.out _ | exact HS9.out | exact HLOW.out _ (fun j hj => (HK5.out.alloc _).block j (by have := HWS.out; omega) (by simp)) | exact HLOW.out _ (fun j hj => HK5.out.block j (by have := HWS.out; omega) (by simp)) | exact HLOW.out _ (fun _ _ => rfl))
                clear hK K
                try simp only [Act.put, List.setIfInBounds_toArray, List.set_cons_zero, List.set_cons_succ]
                refine wpAnyH_done (by kernel_rfl) ?_ _
                (go_wp2; go_roundw; (case rel => exact ⟨k + 1, _, V' ++ [⟨y.cur, a5, m5, c5, y.used⟩], by omega, by omega, by go_num, by rw [List.length_append, HVK.out]; rfl, by rw [take_snoc HLS.out, List.map_append]; exact HC9⟩); (case measure => (simp [intOf]; omega)))
              exact AllReadyH.nil
            exact AllReadyH.nil
          exact AllReadyH.nil
        refine AllReadyH.cons rfl (fun K hK => ?_) ?_
        · go_simp
          refine hK.out _ _ ?_ (fun hHeld => ?_)
          · (try dsimp only); (first | exact HS9u.out _ | exact HS9.out | exact HLOW.out _ (fun j hj => (HK5.out.alloc _).block j (by have := HWS.out; omega) (by simp)) | exact HLOW.out _ (fun j hj => HK5.out.block j (by have := HWS.out; omega) (by simp)) | exact HLOW.out _ (fun _ _ => rfl))
          clear hK K
          try simp only [Act.put, List.setIfInBounds_toArray, List.set_cons_zero, List.set_cons_succ]
          refine wpAnyH_ready (rs := [1]) (by kernel_rfl) (by simp) ?_
          refine AllReadyH.cons rfl (fun K hK => ?_) ?_
          · go_simp
            refine hK.out _ _ ?_ (fun hHeld => ?_)
            · (try dsimp only); (first | exact HS9u.out _ | exact HS9.out | exact HLOW.out _ (fun j hj => (HK5.out.alloc _).block j (by have := HWS.out; omega) (by simp)) | exact HLOW.out _ (fun j hj => HK5.out.block j (by have := HWS.out; omega) (by simp)) | exact HLOW.out _ (fun _ _ => rfl))
            clear hK K
            try simp only [Act.put, List.setIfInBounds_toArray, List.set_cons_zero, List.set_cons_succ]
            refine wpAnyH_ready (rs := [23]) (by kernel_rfl) (by simp) ?_
            refine AllReadyH.cons rfl (fun K hK => ?_) ?_
            · skip
              (first | ((refine (items_any y.ia y.ic s.items y.il HM1.out.2.2.1 _ (HSA.out.keeps ((Keeps.refl [] wr).drew))).mono ?_); rintro e5 w5 ⟨a5, m5, c5, rfl, hm5, hst5, hk5⟩; have HK5 := Lib.hid (((Keeps.refl [] wr).drew).trans hk5); have HST5 := Lib.hid hst5; have HM5 := Lib.hid hm5; have z5 : w5.cell? ⟨w.heap.size + 1 + 1, 0, none⟩ = some v := (HI.out.b2.keeps HK5.out (by simp)).cell 0; have z5a : ∀ o, (w5.alloc o).cell? ⟨w.heap.size + 1 + 1, 0, none⟩ = some v := fun o => ((HI.out.b2.keeps HK5.out (by simp)).alloc o).cell 0; clear hst5 hk5 hm5) | (obtain ⟨v9, w9, hrun, hs9, hk9⟩ := SRow.push ((HI.out.row.keeps HK5.out).keeps ((Keeps.refl [] w5).alloc (.cells (SV.arr (⟨y.cur, a5, m5, c5, y.used⟩ : SV)) 39))) (by rw [HVK.out]; omega) (by have := HK5.out.size; have := HWS.out; simp; omega) w5.heap.size (⟨y.cur, a5, m5, c5, y.used⟩ : SV) (Blk.new w5 39 (SV.arr (⟨y.cur, a5, m5, c5, y.used⟩ : SV))) 22; obtain ⟨a9, c9, h9, _, _⟩ := hs9.row; obtain ⟨n9, hn9⟩ : ∃ n9, (V' ++ [(⟨y.cur, a5, m5, c5, y.used⟩ : SV)]).length = n9 := ⟨_, rfl⟩; rw [hn9] at h9; subst h9; clear hn9; have hc9 := cut_fin (s := cutSn s) HI.out HK5.out hs9 hk9 ⟨HM1.out.1, HM1.out.2.1, HM5.out.symm, HST5.out⟩; simp only [SV.arr] at hrun; refine wp_append_run _ _ 22 (by rfl) (by rfl) (by rfl) (by rfl) hrun ?_; have z9 : w9.cell? ⟨w.heap.size + 1 + 1, 0, none⟩ = some v := hc9.1.cell 0; have f9 := hc9.1.frozen 0; have HC9 := Lib.hid hc9.2; have HS9 := Lib.hid (HLOW.out w9 (fun j hj => (hk9.low.block j (by omega)).trans ((HK5.out.alloc _).block j (by have := HWS.out; omega) (by simp)))); have HS9u := Lib.hid (fun u => HLOW.out (w9.setCell ⟨w.heap.size + 1 + 1, 0, none⟩ u) (fun j hj => (Below.heap_setCell _ _ _ _ (by dsimp only; omega)).trans ((hk9.low.block j (by omega)).trans ((HK5.out.alloc _).block j (by have := HWS.out; omega) (by simp))))); clear hs9 hk9 hc9 hrun))
              refine hK.out _ _ ?_ (fun hHeld => ?_)
              · (try dsimp only); (first | exact HS9u.out _ | exact HS9.out | exact HLOW.out _ (fun j hj => (HK5.out.alloc _).block j (by have := HWS.out; omega) (by simp)) | exact HLOW.out _ (fun j hj => HK5.out.block j (by have := HWS.out; omega) (by simp)) | exact HLOW.out _ (fun _ _ => rfl))
              clear hK K
              try simp only [Act.put, List.setIfInBounds_toArray, List.set_cons_zero, List.set_cons_succ]
              refine wpAnyH_take (i := 24) (oi := { dst := some 43, op := Op.fieldAddr 24 (Operand.tmp 3) 0, type := 0, pos := "law.go:33", after := #[{ on := 0, ground := Ground.phase }, { on := 1, ground := Ground.phase }, { on := 2, ground := Ground.phase }, { on := 3, ground := Ground.phase }, { on := 4, ground := Ground.phase }, { on := 5, ground := Ground.phase }, { on := 6, ground := Ground.phase }, { on := 7, ground := Ground.phase }, { on := 8, ground := Ground.phase }, { on := 9, ground := Ground.phase }, { on := 10, ground := Ground.phase }, { on := 11, ground := Ground.phase }, { on := 12, ground := Ground.phase }, { on := 13, ground := Ground.phase }, { on := 14, ground := Ground.phase }, { on := 15, ground := Ground.phase }, { on := 16, ground := Ground.phase }, { on := 17, ground := Ground.phase }, { on := 18, ground := Ground.phase }, { on := 19, ground := Ground.phase }, { on := 20, ground := Ground.phase }, { on := 21, ground := Ground.phase }, { on := 22, ground := Ground.phase }, { on := 23, ground := Ground.phase }], guard := none }) (v := ?_) rfl (by kernel_rfl) (by kernel_rfl) (by kernel_rfl) (fun _ _ _ h => h) (Or.inl ⟨by rfl, ?_⟩) (by assumption) ?_
              rotate_left; · ((intro w hSw; (try dsimp only at hSw); go_simp); try with_reducible rfl)
              try simp only [Act.put, List.setIfInBounds_toArray, List.set_cons_zero, List.set_cons_succ]
              refine wpAnyH_ready (rs := [25]) (by kernel_rfl) (by simp) ?_
              refine AllReadyH.cons rfl (fun K hK => ?_) ?_
              · go_simp
                refine hK.out _ _ ?_ (fun hHeld => ?_)
                · (try dsimp only); (first | exact HS9u.out _ | exact HS9.out | exact HLOW.out _ (fun j hj => (HK5.out.alloc _).block j (by have := HWS.out; omega) (by simp)) | exact HLOW.out _ (fun j hj => HK5.out.block j (by have := HWS.out; omega) (by simp)) | exact HLOW.out _ (fun _ _ => rfl))
                clear hK K
                try simp only [Act.put, List.setIfInBounds_toArray, List.set_cons_zero, List.set_cons_succ]
                refine wpAnyH_done (by kernel_rfl) ?_ _
                (go_wp2; go_roundw; (case rel => exact ⟨k + 1, _, V' ++ [⟨y.cur, a5, m5, c5, y.used⟩], by omega, by omega, by go_num, by rw [List.length_append, HVK.out]; rfl, by rw [take_snoc HLS.out, List.map_append]; exact HC9⟩); (case measure => (simp [intOf]; omega)))
              exact AllReadyH.nil
            exact AllReadyH.nil
          exact AllReadyH.nil
        exact AllReadyH.nil
      exact AllReadyH.nil
    · obtain ⟨a9, c9, rfl, hle9, hr9⟩ := HI.out.row.row
      have e1 : ((n : Nat) : Int) ≤ (k : Int) ∨ (5 : Int) ≤ (k : Int) := by omega
      have eL : cutL L = (L.take k).map cutSn := by
        have h0 := HP.out.len
        have h1 := HN.out
        unfold cutL
        rcases Nat.lt_or_ge k 5 with h | h
        · rw [List.take_of_length_le (by omega : L.length ≤ 5), List.take_of_length_le (by omega : L.length ≤ k)]
        · rw [show k = 5 by omega]
      have HEL := Lib.hid eL
      have z1 : wr.cell? ⟨w.heap.size + 1 + 1, 0, none⟩ = some (.slice a9 V'.length c9) := HI.out.b2.cell 0
      have z2 : wr.cell? ⟨w.heap.size + 1 + 1, 1, none⟩ = some (.int .i64 next) := HI.out.b2.cell 1
      have c1 := HI.out.b1.cell 0
      have c2 := HI.out.b1.cell 1
      have f1 := HI.out.b1.frozen 0
      have f2 := HI.out.b1.frozen 1
      have hb9 : Blk ((wr.setCell ⟨w.heap.size + 1, 0, none⟩ (.slice a9 V'.length c9)).setCell ⟨w.heap.size + 1, 1, none⟩ (.int .i64 next)) (w.heap.size + 1) 24 #[.slice a9 V'.length c9, .int .i64 next] := (HI.out.b1.set_ 0 _).set_ 1 _
      have hk9 : Keeps [w.heap.size + 1] wr ((wr.setCell ⟨w.heap.size + 1, 0, none⟩ (.slice a9 V'.length c9)).setCell ⟨w.heap.size + 1, 1, none⟩ (.int .i64 next)) := ((Keeps.refl _ wr).setCell (p := ⟨w.heap.size + 1, 0, none⟩) (.inl (by simp)) _).setCell (p := ⟨w.heap.size + 1, 1, none⟩) (.inl (by simp)) _
      have hP9 : PoolV ((wr.setCell ⟨w.heap.size + 1, 0, none⟩ (.slice a9 V'.length c9)).setCell ⟨w.heap.size + 1, 1, none⟩ (.int .i64 next)) a9 c9 V' ⟨cutL L, next⟩ := by
        have hs9 := (HI.out.row.far (p := ⟨w.heap.size + 1, 0, none⟩) (by dsimp only; omega) (.slice a9 V'.length c9)).far (p := ⟨w.heap.size + 1, 1, none⟩) (by dsimp only; omega) (.int .i64 next)
        obtain ⟨a0, c0, h0, _, hr⟩ := hs9.row
        cases h0
        exact ⟨hle9, by have := HVK.out; omega, hr, by rw [HEL.out]; exact HI.out.mt.keepsS hk9 (pool_nostr HI.out.b1)⟩
      have hkw : Keeps [] w ((wr.setCell ⟨w.heap.size + 1, 0, none⟩ (.slice a9 V'.length c9)).setCell ⟨w.heap.size + 1, 1, none⟩ (.int .i64 next)) := Keeps.of_below ((HI.out.below.setCell (p := ⟨w.heap.size + 1, 0, none⟩) (by dsimp only; omega) _).setCell (p := ⟨w.heap.size + 1, 1, none⟩) (by dsimp only; omega) _) []
      have HB9 := Lib.hid hb9
      have HP9 := Lib.hid hP9
      have HK9 := Lib.hid hkw
      clear hb9 hP9 hkw hk9 eL hr9 hle9
      have HKV := Lib.hid HVK.out
      rcases Nat.lt_or_ge k n with hk | hk
      · have i2 : (k : Int) < (n : Int) := by omega
        have i3 : ¬ (k : Int) < 5 := by omega
        clear e1
        go_wp2_with (fail)
        exact bodyPost_ret (v := .agg #[.slice a9 V'.length c9, .int .i64 next]) (by have q0 := HB9.out.cell 0; have q1 := HB9.out.cell 1; simp [results, Tryd.results10, go_sem, q0, q1]) rfl ⟨a9, V'.length, c9, rfl, V', rfl, HP9.out, HK9.out⟩
      · have i2 : ¬ (k : Int) < (n : Int) := by omega
        clear e1
        go_wp2_with (fail)
        exact bodyPost_ret (v := .agg #[.slice a9 V'.length c9, .int .i64 next]) (by have q0 := HB9.out.cell 0; have q1 := HB9.out.cell 1; simp [results, Tryd.results10, go_sem, q0, q1]) rfl ⟨a9, V'.length, c9, rfl, V', rfl, HP9.out, HK9.out⟩
end Go.Proofs.YtbcppmcjbcnlbaaDoor
