/- The document's tunnel in memory; the walks of its clear, Event, Stop, Counts. -/
import Derived.Test.YtollcbacpoohlaaGreatDoorTunN
import Derived.Test.YtollcbacpoohlaaGreatDoorTunRA
import Derived.Test.YtollcbacpoohlaaGreatDoorFifoR
import Derived.Test.YtollcbacpoohlaaGreatDoorStreamRN
import Derived.Deep.RegionHeld3
namespace Go.Proofs.YtollcbacpoohlaaGreatDoor
open Go.RowKit
attribute [local go_sem ↓] Go.wp_at_zero Go.wp_at_succ

/-- Where a way of the document's lies: itself, In, Out. -/
structure RL where
  b : Nat
  i : Nat
  o : Nat
def RL.l (R : RL) : List Nat := [R.b, R.i, R.o]

structure RwAt (w : World) (R : RL) (cap : Nat) (y : Wy) : Prop where
  head : Blk w R.b 66 #[.pointer (some ⟨R.i, 0, none⟩), .pointer (some ⟨R.o, 0, none⟩), .int .i64 y.g, .int .i64 y.s, .int .i64 y.f, .int .i64 y.s, .int .i64 y.d]
  fi : Ri w R.i cap (str y.i)
  fo : Ri w R.o cap (str y.o)
  nd : R.l.Nodup
  ok : WyOk cap y
  cp : cap ≤ 4096

section
variable {w w' : World} {R : RL} {cap : Nat} {y : Wy} {S : List Nat}
theorem RwAt.keeps (h : RwAt w R cap y) (hk : Keeps S w w') (hn : ∀ k ∈ R.l, k ∉ S) : RwAt w' R cap y :=
  ⟨h.head.keeps hk (hn _ (by simp [RL.l])), h.fi.keeps hk (hn _ (by simp [RL.l])), h.fo.keeps hk (hn _ (by simp [RL.l])), h.nd, h.ok, h.cp⟩
theorem RwAt.ne (h : RwAt w R cap y) : R.b ≠ R.i ∧ R.b ≠ R.o ∧ R.i ≠ R.o := by
  have := h.nd
  simp only [RL.l, List.nodup_cons, List.mem_cons, List.not_mem_nil, or_false, not_or] at this
  obtain ⟨⟨a1, a2⟩, b1, _⟩ := this
  exact ⟨a1, a2, b1⟩
theorem RwAt.c0 (h : RwAt w R cap y) : w.cell? ⟨R.b, 0, none⟩ = some (.pointer (some ⟨R.i, 0, none⟩)) := h.head.cell 0
theorem RwAt.c1 (h : RwAt w R cap y) : w.cell? ⟨R.b, 1, none⟩ = some (.pointer (some ⟨R.o, 0, none⟩)) := h.head.cell 1
theorem RwAt.c2 (h : RwAt w R cap y) : w.cell? ⟨R.b, 2, none⟩ = some (.int .i64 y.g) := h.head.cell 2
theorem RwAt.c3 (h : RwAt w R cap y) : w.cell? ⟨R.b, 3, none⟩ = some (.int .i64 y.s) := h.head.cell 3
theorem RwAt.c4 (h : RwAt w R cap y) : w.cell? ⟨R.b, 4, none⟩ = some (.int .i64 y.f) := h.head.cell 4
theorem RwAt.c5 (h : RwAt w R cap y) : w.cell? ⟨R.b, 5, none⟩ = some (.int .i64 y.s) := h.head.cell 5
theorem RwAt.c6 (h : RwAt w R cap y) : w.cell? ⟨R.b, 6, none⟩ = some (.int .i64 y.d) := h.head.cell 6
end

/-- Where the document's tunnel lies. -/
structure RT where
  b : Nat
  x : RL
  y : RL
def RT.l (T : RT) : List Nat := T.b :: (T.x.l ++ T.y.l)

structure RtAt (w : World) (T : RT) (cap : Nat) (t : Tu) : Prop where
  head : Blk w T.b 43 #[.int .i64 t.st, .pointer (some ⟨T.x.b, 0, none⟩), .pointer (some ⟨T.y.b, 0, none⟩)]
  a : RwAt w T.x cap t.a
  b : RwAt w T.y cap t.b
  nd : T.l.Nodup
  ok : TuOk t

def RT.wl (T : RT) (side : Int) : RL := if side = 1 then T.y else T.x

section
variable {w w' : World} {T : RT} {cap : Nat} {t : Tu} {S : List Nat}
theorem RT.sub (T : RT) : (∀ k ∈ T.x.l, k ∈ T.l) ∧ (∀ k ∈ T.y.l, k ∈ T.l) ∧ T.b ∈ T.l := by
  refine ⟨fun k hk => ?_, fun k hk => ?_, ?_⟩ <;> simp [RT.l, *]
theorem RT.sub2 (T : RT) : ∀ k ∈ T.x.l ++ T.y.l, k ∈ T.l := fun k hm => by
  rcases List.mem_append.1 hm with hm | hm
  · exact T.sub.1 k hm
  · exact T.sub.2.1 k hm
theorem RtAt.keeps (h : RtAt w T cap t) (hk : Keeps S w w') (hn : ∀ k ∈ T.l, k ∉ S) : RtAt w' T cap t :=
  ⟨h.head.keeps hk (hn _ T.sub.2.2), h.a.keeps hk (fun k hm => hn k (T.sub.1 k hm)), h.b.keeps hk (fun k hm => hn k (T.sub.2.1 k hm)), h.nd, h.ok⟩
theorem RtAt.keep (h : RtAt w T cap t) (hk : Keeps [] w w') : RtAt w' T cap t := h.keeps hk (by simp)
theorem RtAt.c0 (h : RtAt w T cap t) : w.cell? ⟨T.b, 0, none⟩ = some (.int .i64 t.st) := h.head.cell 0
theorem RtAt.c1 (h : RtAt w T cap t) : w.cell? ⟨T.b, 1, none⟩ = some (.pointer (some ⟨T.x.b, 0, none⟩)) := h.head.cell 1
theorem RtAt.c2 (h : RtAt w T cap t) : w.cell? ⟨T.b, 2, none⟩ = some (.pointer (some ⟨T.y.b, 0, none⟩)) := h.head.cell 2
theorem RT.apart {T : RT} (h : T.l.Nodup) : T.b ∉ T.x.l ∧ T.b ∉ T.y.l ∧ (∀ k ∈ T.x.l, k ∉ T.y.l) ∧ ∀ k ∈ T.y.l, k ∉ T.x.l := by
  unfold RT.l at h
  rw [List.nodup_cons, List.mem_append, List.nodup_append] at h
  obtain ⟨h1, _, _, h2⟩ := h
  exact ⟨fun hm => h1 (.inl hm), fun hm => h1 (.inr hm), fun k hk hm => h2 k hk k hm rfl, fun k hk hm => h2 k hm k hk rfl⟩
theorem RtAt.way (h : RtAt w T cap t) (side : Int) : RwAt w (T.wl side) cap (t.at_ side) := by
  unfold RT.wl Tu.at_
  split
  · exact h.b
  · exact h.a
theorem RT.wl_sub (T : RT) (side : Int) : ∀ k ∈ (T.wl side).l, k ∈ T.l := by
  unfold RT.wl
  split
  · exact T.sub.2.1
  · exact T.sub.1
/-- One way has turned. -/
theorem RtAt.setW (h : RtAt w T cap t) (side : Int) {y : Wy} (hy : RwAt w' (T.wl side) cap y) (hk : Keeps (T.wl side).l w w') (ho : TuOk (t.set side y)) : RtAt w' T cap (t.set side y) ∧ Keeps T.l w w' := by
  refine ⟨?_, hk.mono (T.wl_sub side)⟩
  obtain ⟨a1, a2, a3, a4⟩ := RT.apart h.nd
  unfold RT.wl at hy hk
  unfold Tu.set at ho ⊢
  split at hy
  · rename_i hs
    rw [if_pos hs] at ho hk ⊢
    exact ⟨h.head.keeps hk a2, h.a.keeps hk a3, hy, h.nd, ho⟩
  · rename_i hs
    rw [if_neg hs] at ho hk ⊢
    exact ⟨h.head.keeps hk a1, hy, h.b.keeps hk a4, h.nd, ho⟩
theorem RtAt.setSt (h : RtAt w T cap t) (s : Nat) (hw : w' = w.setCell ⟨T.b, 0, none⟩ (.int .i64 s)) (ho : TuOk { t with st := s }) : RtAt w' T cap { t with st := s } ∧ Keeps T.l w w' := by
  subst hw
  have hk : Keeps [T.b] w (w.setCell ⟨T.b, 0, none⟩ (.int .i64 s)) := (Keeps.refl [T.b] w).setCell (p := ⟨T.b, 0, none⟩) (.inl (by simp)) _
  obtain ⟨a1, a2, a3, a4⟩ := RT.apart h.nd
  refine ⟨⟨by simpa using h.head.set_ 0 (.int .i64 s), h.a.keeps hk ?_, h.b.keeps hk ?_, h.nd, ho⟩, hk.mono (by simpa using T.sub.2.2)⟩
  · intro k hm hn; simp only [List.mem_singleton] at hn; subst hn; exact a1 hm
  · intro k hm hn; simp only [List.mem_singleton] at hn; subst hn; exact a2 hm
/-- Both ways cleared. -/
theorem RtAt.clrd (h : RtAt w T cap t) (ha : RwAt w' T.x cap t.a.clr) (hb : RwAt w' T.y cap t.b.clr) (hk : Keeps (T.x.l ++ T.y.l) w w') (hs : 5 ≤ t.st) : RtAt w' T cap t.clr :=
  ⟨h.head.keeps hk (by obtain ⟨a1, a2, _⟩ := RT.apart h.nd; simpa using ⟨a1, a2⟩), ha, hb, h.nd, ⟨h.ok.st, .inr ⟨rfl, hs⟩, .inr ⟨rfl, hs⟩⟩⟩
end

theorem str_nil : str [] = ⟨#[]⟩ := rfl

/-- A queue of a way cleared; what else lies there. -/
theorem RwAt.iclr {w w' : World} {R : RL} {cap : Nat} {y : Wy} (h : RwAt w R cap y) (hr : Ri w' R.i cap ⟨#[]⟩) (hk : Keeps [R.i] w w') (hc : WyOk cap y.clr) : RwAt w' R cap y.clr := by
  obtain ⟨a1, a2, a3⟩ := h.ne
  exact ⟨h.head.keeps hk (by simpa using a1), hr, h.fo.keeps hk (by simpa using fun e => a3 e.symm), h.nd, hc, h.cp⟩

/-- What holds while both ways are cleared. -/
structure Cl (T : RT) (cap : Nat) (t : Tu) (p q : Bool) (w0 w : World) : Prop where
  a : RwAt w T.x cap (if p then t.a.clr else t.a)
  b : RwAt w T.y cap (if q then t.b.clr else t.b)
  c1 : w.cell? ⟨T.b, 1, none⟩ = some (.pointer (some ⟨T.x.b, 0, none⟩))
  c2 : w.cell? ⟨T.b, 2, none⟩ = some (.pointer (some ⟨T.y.b, 0, none⟩))
  k : Keeps (T.x.l ++ T.y.l) w0 w
def ClS (T : RT) (w' : World) : Prop := w'.cell? ⟨T.b, 1, none⟩ = some (.pointer (some ⟨T.x.b, 0, none⟩)) ∧ w'.cell? ⟨T.b, 2, none⟩ = some (.pointer (some ⟨T.y.b, 0, none⟩)) ∧
  w'.cell? ⟨T.x.b, 0, none⟩ = some (.pointer (some ⟨T.x.i, 0, none⟩)) ∧ w'.cell? ⟨T.y.b, 0, none⟩ = some (.pointer (some ⟨T.y.i, 0, none⟩))
section
variable {T : RT} {cap : Nat} {t : Tu} {p q : Bool} {w0 : World}
theorem Cl.s {w : World} (h : Cl T cap t p q w0 w) : ClS T w := ⟨h.c1, h.c2, h.a.c0, h.b.c0⟩
theorem Cl.fst {w : World} (hd : T.l.Nodup) (hca : WyOk cap t.a.clr) (n : Nat) (hn : t.a.i.length = n) (h : Cl T cap t false q w0 w) :
    Calls Tryz.prog 75 #[.pointer (some ⟨T.x.i, 0, none⟩)] w fun e w' => e = .returned (.int .i64 n) ∧ Cl T cap t true q w0 w' := by
  have hr := rclear_any T.x.i cap (str t.a.i) w h.a.fi
  rw [str_size, hn] at hr
  refine hr.mono ?_
  rintro e w' ⟨rfl, hq, hk⟩
  obtain ⟨a1, a2, a3, a4⟩ := RT.apart hd
  have hx : T.x.i ∈ T.x.l := by simp [RL.l]
  have hne : T.b ∉ [T.x.i] := by simp only [List.mem_singleton]; intro e; exact a1 (e ▸ hx)
  exact ⟨rfl, ⟨RwAt.iclr h.a hq hk hca, h.b.keeps hk (fun k hm hn => by simp only [List.mem_singleton] at hn; subst hn; exact a3 _ hx hm),
    (hk.cell (World.block_lt_of_cell? w _ h.c1) hne).trans h.c1, (hk.cell (World.block_lt_of_cell? w _ h.c2) hne).trans h.c2, h.k.trans (hk.mono (by simp [RL.l]))⟩⟩
theorem Cl.snd {w : World} (hd : T.l.Nodup) (hcb : WyOk cap t.b.clr) (n : Nat) (hn : t.b.i.length = n) (h : Cl T cap t p false w0 w) :
    Calls Tryz.prog 75 #[.pointer (some ⟨T.y.i, 0, none⟩)] w fun e w' => e = .returned (.int .i64 n) ∧ Cl T cap t p true w0 w' := by
  have hr := rclear_any T.y.i cap (str t.b.i) w h.b.fi
  rw [str_size, hn] at hr
  refine hr.mono ?_
  rintro e w' ⟨rfl, hq, hk⟩
  obtain ⟨a1, a2, a3, a4⟩ := RT.apart hd
  have hx : T.y.i ∈ T.y.l := by simp [RL.l]
  have hne : T.b ∉ [T.y.i] := by simp only [List.mem_singleton]; intro e; exact a2 (e ▸ hx)
  exact ⟨rfl, ⟨h.a.keeps hk (fun k hm hn => by simp only [List.mem_singleton] at hn; subst hn; exact a4 _ hx hm), RwAt.iclr h.b hq hk hcb,
    (hk.cell (World.block_lt_of_cell? w _ h.c1) hne).trans h.c1, (hk.cell (World.block_lt_of_cell? w _ h.c2) hne).trans h.c2, h.k.trans (hk.mono (by simp [RL.l]))⟩⟩
end

set_option maxHeartbeats 1000000 in
theorem vclear_any (T : RT) (cap : Nat) (t : Tu) (n : Nat) (hn : t.a.i.length + t.b.i.length = n) (hca : WyOk cap t.a.clr) (hcb : WyOk cap t.b.clr) (w : World) (h : RtAt w T cap t) :
    Calls Tryz.prog 50 #[.pointer (some ⟨T.b, 0, none⟩)] w fun e w' => e = .returned (.int .i64 n) ∧ RwAt w' T.x cap t.a.clr ∧ RwAt w' T.y cap t.b.clr ∧ Keeps (T.x.l ++ T.y.l) w w' := by
  obtain ⟨n1, hn1⟩ : ∃ n1, t.a.i.length = n1 := ⟨_, rfl⟩
  obtain ⟨n2, hn2⟩ : ∃ n2, t.b.i.length = n2 := ⟨_, rfl⟩
  have b1 : n1 ≤ 4096 := by have := h.a.ok.i; have := h.a.cp; omega
  have b2 : n2 ≤ 4096 := by have := h.b.ok.i; have := h.b.cp; omega
  have hd := h.nd
  have CA := Lib.hid (fun (wz : World) (q : Bool) (hz : Cl T cap t false q w wz) => Cl.fst hd hca n1 hn1 hz)
  have CB := Lib.hid (fun (wz : World) (p : Bool) (hz : Cl T cap t p false w wz) => Cl.snd hd hcb n2 hn2 hz)
  have HCL0 := Lib.hid (show Cl T cap t false false w w.drew from ⟨h.a.keeps (Keeps.refl [] w).drew (by simp), h.b.keeps (Keeps.refl [] w).drew (by simp), h.c1, h.c2, (Keeps.refl _ w).drew⟩)
  have k0 := h.c1
  have k1 := h.c2
  have x0 := h.a.c0
  have y0 := h.b.c0
  have hw : IntKind.i64.wrap ((n1 : Int) + (n2 : Int)) = (n1 : Int) + (n2 : Int) := IntWalk.i64_in _ (by omega)
  have HN : Hid ((n1 : Int) + (n2 : Int) = (n : Int)) := Lib.hid (by omega)
  clear h hd hn1 hn2 b1 b2 hn hca hcb
  go_enter Tryz.func50, Tryz.ntmps50
  go_wp2_with (fail)
  refine wp_region_held_drew (S := (fun w' : World => w'.cell? ⟨T.b, 1, none⟩ = some (.pointer (some ⟨T.x.b, 0, none⟩)) ∧ w'.cell? ⟨T.b, 2, none⟩ = some (.pointer (some ⟨T.y.b, 0, none⟩)) ∧ w'.cell? ⟨T.x.b, 0, none⟩ = some (.pointer (some ⟨T.x.i, 0, none⟩)) ∧ w'.cell? ⟨T.y.b, 0, none⟩ = some (.pointer (some ⟨T.y.i, 0, none⟩)))) (by kernel_rfl) ?_ (fun hHeld => ?_)
  · (try dsimp only); (first | exact ⟨k0, k1, x0, y0⟩ | exact hc2.s | exact hc1.s)
  refine wpAnyH_take (i := 0) (oi := { dst := some 3, op := Op.move (Operand.tmp 0), type := 29, pos := "ref.go:55", after := #[], guard := none }) (v := ?_) rfl (by kernel_rfl) (by kernel_rfl) (by kernel_rfl) (fun _ _ _ h => h) (Or.inl ⟨by rfl, ?_⟩) (by assumption) ?_
  rotate_left; · ((intro w hSw; (try dsimp only at hSw); go_simp); try with_reducible rfl)
  try simp only [Act.put, List.setIfInBounds_toArray, List.set_cons_zero, List.set_cons_succ]
  refine wpAnyH_take (i := 1) (oi := { dst := some 4, op := Op.nilCheck (Operand.tmp 3), type := 0, pos := "ref.go:55", after := #[{ on := 0, ground := Ground.data }], guard := none }) (v := ?_) rfl (by kernel_rfl) (by kernel_rfl) (by kernel_rfl) (fun _ _ _ h => h) (Or.inl ⟨by rfl, ?_⟩) (by assumption) ?_
  rotate_left; · ((intro w hSw; (try dsimp only at hSw); go_simp); try with_reducible rfl)
  try simp only [Act.put, List.setIfInBounds_toArray, List.set_cons_zero, List.set_cons_succ]
  refine wpAnyH_take (i := 2) (oi := { dst := some 5, op := Op.fieldAddr 43 (Operand.tmp 4) 1, type := 0, pos := "ref.go:55", after := #[{ on := 1, ground := Ground.data }], guard := none }) (v := ?_) rfl (by kernel_rfl) (by kernel_rfl) (by kernel_rfl) (fun _ _ _ h => h) (Or.inl ⟨by rfl, ?_⟩) (by assumption) ?_
  rotate_left; · ((intro w hSw; (try dsimp only at hSw); go_simp); try with_reducible rfl)
  try simp only [Act.put, List.setIfInBounds_toArray, List.set_cons_zero, List.set_cons_succ]
  refine wpAnyH_take (i := 3) (oi := { dst := some 6, op := Op.indexAddr 41 (Operand.tmp 5) (Operand.const (Value.int IntKind.i64 0)), type := 0, pos := "ref.go:55", after := #[{ on := 2, ground := Ground.data }], guard := none }) (v := ?_) rfl (by kernel_rfl) (by kernel_rfl) (by kernel_rfl) (fun _ _ _ h => h) (Or.inl ⟨by rfl, ?_⟩) (by assumption) ?_
  rotate_left; · ((intro w hSw; (try dsimp only at hSw); go_simp); try with_reducible rfl)
  try simp only [Act.put, List.setIfInBounds_toArray, List.set_cons_zero, List.set_cons_succ]
  refine wpAnyH_take (i := 4) (oi := { dst := some 7, op := Op.load 40 (Operand.tmp 6), type := 40, pos := "ref.go:55", after := #[{ on := 3, ground := Ground.data }], guard := none }) (v := ?_) rfl (by kernel_rfl) (by kernel_rfl) (by kernel_rfl) (fun _ _ _ h => h) (Or.inl ⟨by rfl, ?_⟩) (by assumption) ?_
  rotate_left; · ((intro w hSw; (try dsimp only at hSw); go_simp); try with_reducible rfl)
  try simp only [Act.put, List.setIfInBounds_toArray, List.set_cons_zero, List.set_cons_succ]
  refine wpAnyH_take (i := 5) (oi := { dst := some 8, op := Op.nilCheck (Operand.tmp 7), type := 0, pos := "ref.go:55", after := #[{ on := 4, ground := Ground.data }], guard := none }) (v := ?_) rfl (by kernel_rfl) (by kernel_rfl) (by kernel_rfl) (fun _ _ _ h => h) (Or.inl ⟨by rfl, ?_⟩) (by assumption) ?_
  rotate_left; · ((intro w hSw; (try dsimp only at hSw); go_simp); try with_reducible rfl)
  try simp only [Act.put, List.setIfInBounds_toArray, List.set_cons_zero, List.set_cons_succ]
  refine wpAnyH_take (i := 6) (oi := { dst := some 9, op := Op.fieldAddr 66 (Operand.tmp 8) 0, type := 0, pos := "ref.go:55", after := #[{ on := 5, ground := Ground.data }], guard := none }) (v := ?_) rfl (by kernel_rfl) (by kernel_rfl) (by kernel_rfl) (fun _ _ _ h => h) (Or.inl ⟨by rfl, ?_⟩) (by assumption) ?_
  rotate_left; · ((intro w hSw; (try dsimp only at hSw); go_simp); try with_reducible rfl)
  try simp only [Act.put, List.setIfInBounds_toArray, List.set_cons_zero, List.set_cons_succ]
  refine wpAnyH_take (i := 7) (oi := { dst := some 10, op := Op.load 60 (Operand.tmp 9), type := 60, pos := "ref.go:55", after := #[{ on := 6, ground := Ground.data }], guard := none }) (v := ?_) rfl (by kernel_rfl) (by kernel_rfl) (by kernel_rfl) (fun _ _ _ h => h) (Or.inl ⟨by rfl, ?_⟩) (by assumption) ?_
  rotate_left; · ((intro w hSw; (try dsimp only at hSw); go_simp); try with_reducible rfl)
  try simp only [Act.put, List.setIfInBounds_toArray, List.set_cons_zero, List.set_cons_succ]
  refine wpAnyH_take (i := 9) (oi := { dst := some 12, op := Op.move (Operand.tmp 0), type := 29, pos := "ref.go:55", after := #[], guard := none }) (v := ?_) rfl (by kernel_rfl) (by kernel_rfl) (by kernel_rfl) (fun _ _ _ h => h) (Or.inl ⟨by rfl, ?_⟩) (by assumption) ?_
  rotate_left; · ((intro w hSw; (try dsimp only at hSw); go_simp); try with_reducible rfl)
  try simp only [Act.put, List.setIfInBounds_toArray, List.set_cons_zero, List.set_cons_succ]
  refine wpAnyH_take (i := 10) (oi := { dst := some 13, op := Op.nilCheck (Operand.tmp 12), type := 0, pos := "ref.go:55", after := #[{ on := 9, ground := Ground.data }], guard := none }) (v := ?_) rfl (by kernel_rfl) (by kernel_rfl) (by kernel_rfl) (fun _ _ _ h => h) (Or.inl ⟨by rfl, ?_⟩) (by assumption) ?_
  rotate_left; · ((intro w hSw; (try dsimp only at hSw); go_simp); try with_reducible rfl)
  try simp only [Act.put, List.setIfInBounds_toArray, List.set_cons_zero, List.set_cons_succ]
  refine wpAnyH_take (i := 11) (oi := { dst := some 14, op := Op.fieldAddr 43 (Operand.tmp 13) 1, type := 0, pos := "ref.go:55", after := #[{ on := 10, ground := Ground.data }], guard := none }) (v := ?_) rfl (by kernel_rfl) (by kernel_rfl) (by kernel_rfl) (fun _ _ _ h => h) (Or.inl ⟨by rfl, ?_⟩) (by assumption) ?_
  rotate_left; · ((intro w hSw; (try dsimp only at hSw); go_simp); try with_reducible rfl)
  try simp only [Act.put, List.setIfInBounds_toArray, List.set_cons_zero, List.set_cons_succ]
  refine wpAnyH_take (i := 12) (oi := { dst := some 15, op := Op.indexAddr 41 (Operand.tmp 14) (Operand.const (Value.int IntKind.i64 1)), type := 0, pos := "ref.go:55", after := #[{ on := 11, ground := Ground.data }], guard := none }) (v := ?_) rfl (by kernel_rfl) (by kernel_rfl) (by kernel_rfl) (fun _ _ _ h => h) (Or.inl ⟨by rfl, ?_⟩) (by assumption) ?_
  rotate_left; · ((intro w hSw; (try dsimp only at hSw); go_simp); try with_reducible rfl)
  try simp only [Act.put, List.setIfInBounds_toArray, List.set_cons_zero, List.set_cons_succ]
  refine wpAnyH_take (i := 13) (oi := { dst := some 16, op := Op.load 40 (Operand.tmp 15), type := 40, pos := "ref.go:55", after := #[{ on := 12, ground := Ground.data }], guard := none }) (v := ?_) rfl (by kernel_rfl) (by kernel_rfl) (by kernel_rfl) (fun _ _ _ h => h) (Or.inl ⟨by rfl, ?_⟩) (by assumption) ?_
  rotate_left; · ((intro w hSw; (try dsimp only at hSw); go_simp); try with_reducible rfl)
  try simp only [Act.put, List.setIfInBounds_toArray, List.set_cons_zero, List.set_cons_succ]
  refine wpAnyH_take (i := 14) (oi := { dst := some 17, op := Op.nilCheck (Operand.tmp 16), type := 0, pos := "ref.go:55", after := #[{ on := 13, ground := Ground.data }], guard := none }) (v := ?_) rfl (by kernel_rfl) (by kernel_rfl) (by kernel_rfl) (fun _ _ _ h => h) (Or.inl ⟨by rfl, ?_⟩) (by assumption) ?_
  rotate_left; · ((intro w hSw; (try dsimp only at hSw); go_simp); try with_reducible rfl)
  try simp only [Act.put, List.setIfInBounds_toArray, List.set_cons_zero, List.set_cons_succ]
  refine wpAnyH_take (i := 15) (oi := { dst := some 18, op := Op.fieldAddr 66 (Operand.tmp 17) 0, type := 0, pos := "ref.go:55", after := #[{ on := 14, ground := Ground.data }], guard := none }) (v := ?_) rfl (by kernel_rfl) (by kernel_rfl) (by kernel_rfl) (fun _ _ _ h => h) (Or.inl ⟨by rfl, ?_⟩) (by assumption) ?_
  rotate_left; · ((intro w hSw; (try dsimp only at hSw); go_simp); try with_reducible rfl)
  try simp only [Act.put, List.setIfInBounds_toArray, List.set_cons_zero, List.set_cons_succ]
  refine wpAnyH_take (i := 16) (oi := { dst := some 19, op := Op.load 60 (Operand.tmp 18), type := 60, pos := "ref.go:55", after := #[{ on := 15, ground := Ground.data }], guard := none }) (v := ?_) rfl (by kernel_rfl) (by kernel_rfl) (by kernel_rfl) (fun _ _ _ h => h) (Or.inl ⟨by rfl, ?_⟩) (by assumption) ?_
  rotate_left; · ((intro w hSw; (try dsimp only at hSw); go_simp); try with_reducible rfl)
  try simp only [Act.put, List.setIfInBounds_toArray, List.set_cons_zero, List.set_cons_succ]
  refine wpAnyH_ready (rs := [8]) (by kernel_rfl) (by simp) ?_
  refine AllReadyH.cons rfl (fun K hK => ?_) ?_
  · go_simp
    (refine (CA.out _ _ HCL0.out).mono ?_; rintro e w1 ⟨rfl, hc1⟩)
    refine hK.out _ _ ?_ (fun hHeld => ?_)
    · (try dsimp only); (first | exact ⟨k0, k1, x0, y0⟩ | exact hc2.s | exact hc1.s)
    clear hK K
    try simp only [Act.put, List.setIfInBounds_toArray, List.set_cons_zero, List.set_cons_succ]
    refine wpAnyH_ready (rs := [17]) (by kernel_rfl) (by simp) ?_
    refine AllReadyH.cons rfl (fun K hK => ?_) ?_
    · go_simp
      (refine (CB.out _ _ hc1).mono ?_; rintro e w2 ⟨rfl, hc2⟩)
      refine hK.out _ _ ?_ (fun hHeld => ?_)
      · (try dsimp only); (first | exact ⟨k0, k1, x0, y0⟩ | exact hc2.s | exact hc1.s)
      clear hK K
      try simp only [Act.put, List.setIfInBounds_toArray, List.set_cons_zero, List.set_cons_succ]
      refine wpAnyH_take (i := 18) (oi := { dst := some 21, op := Op.binOp BinOp.add 3 (Operand.tmp 11) (Operand.tmp 20) 3, type := 3, pos := "ref.go:55", after := #[{ on := 8, ground := Ground.data }, { on := 17, ground := Ground.data }], guard := none }) (v := ?_) rfl (by kernel_rfl) (by kernel_rfl) (by kernel_rfl) (fun _ _ _ h => h) (Or.inl ⟨by rfl, ?_⟩) (by assumption) ?_
      rotate_left; · ((intro w hSw; (try dsimp only at hSw); go_simp); try with_reducible rfl)
      try simp only [Act.put, List.setIfInBounds_toArray, List.set_cons_zero, List.set_cons_succ]
      refine wpAnyH_take (i := 19) (oi := { dst := some 2, op := Op.assign (Operand.tmp 21), type := 3, pos := "ref.go:55", after := #[{ on := 18, ground := Ground.data }, { on := 17, ground := Ground.chain }, { on := 0, ground := Ground.phase }, { on := 1, ground := Ground.phase }, { on := 2, ground := Ground.phase }, { on := 3, ground := Ground.phase }, { on := 4, ground := Ground.phase }, { on := 5, ground := Ground.phase }, { on := 6, ground := Ground.phase }, { on := 7, ground := Ground.phase }, { on := 8, ground := Ground.phase }, { on := 9, ground := Ground.phase }, { on := 10, ground := Ground.phase }, { on := 11, ground := Ground.phase }, { on := 12, ground := Ground.phase }, { on := 13, ground := Ground.phase }, { on := 14, ground := Ground.phase }, { on := 15, ground := Ground.phase }, { on := 16, ground := Ground.phase }, { on := 17, ground := Ground.phase }, { on := 18, ground := Ground.phase }], guard := none }) (v := ?_) rfl (by kernel_rfl) (by kernel_rfl) (by kernel_rfl) (fun _ _ _ h => h) (Or.inl ⟨by rfl, ?_⟩) (by assumption) ?_
      rotate_left; · ((intro w hSw; (try dsimp only at hSw); go_simp); try with_reducible rfl)
      try simp only [Act.put, List.setIfInBounds_toArray, List.set_cons_zero, List.set_cons_succ]
      refine wpAnyH_done (by kernel_rfl) ?_ _
      (go_wp2; go_ret; exact ⟨ret_int HN.out, hc2.a, hc2.b, hc2.k⟩)
    exact AllReadyH.nil
  exact AllReadyH.nil

set_option maxHeartbeats 1000000 in
theorem vEvent_any (T : RT) (cap : Nat) (t t' : Tu) (e r : Int) (hr : t.event e = (r, t')) (w : World) (h : RtAt w T cap t) :
    Calls Tryz.prog 23 #[.pointer (some ⟨T.b, 0, none⟩), .int .i64 e] w fun e w' => e = .returned (.int .i64 r) ∧ RtAt w' T cap t' ∧ Keeps T.l w w' := by
  unfold Tu.event at hr
  have hn := fun (x y : Int) (h : nextA t.st e = (x, y)) => rnext_any t.st e x y h
  rw [nextA_of h.ok.st e] at hn
  have c0 := h.c0
  have H := Lib.hid h
  cases hx : nxt t.st e with
  | none =>
    rw [hx] at hr hn
    obtain ⟨rfl, rfl⟩ : (140 : Int) = r ∧ t = t' := by simpa using hr
    have HN := Lib.hid (hn 0 140 rfl)
    clear hr hn hx h
    go_enter Tryz.func23, Tryz.ntmps23
    go_wp2_with (fail)
    refine (HN.out _).mono ?_
    rintro e w1 ⟨rfl, rfl⟩
    go_wp2
    go_ret
    exact ⟨rfl, H.out, Keeps.refl _ _⟩
  | some s =>
    rw [hx] at hr hn
    dsimp only at hr hn
    have hs4 := nxt_from hx
    have hs6 := (nxt_lt hx).1
    obtain ⟨rfl, hr2⟩ : (0 : Int) = r ∧ (if s = 6 then Tu.clr { t with st := s } else { t with st := s }) = t' := by simpa using hr
    have hok : TuOk { t with st := s } := ⟨hs6, .inl (h.ok.a.resolve_right (fun hm => by omega)), .inl (h.ok.b.resolve_right (fun hm => by omega))⟩
    have HN := Lib.hid (hn s 0 rfl)
    have HOK := Lib.hid hok
    have HR := Lib.hid hr2
    have f0 := h.head.frozen 0
    obtain ⟨W, hW⟩ : ∃ W, w.setCell ⟨T.b, 0, none⟩ (.int .i64 s) = W := ⟨_, rfl⟩
    obtain ⟨h2, hk2⟩ := h.setSt s hW.symm hok
    have HH := Lib.hid h2
    have HK := Lib.hid hk2
    have HW := Lib.hid hW
    clear hr hn hx h hok hr2 hs4 hW h2 hk2
    go_enter Tryz.func23, Tryz.ntmps23
    go_wp2_with (fail)
    refine (HN.out _).mono ?_
    rintro e w1 ⟨rfl, rfl⟩
    by_cases h6 : s = 6
    · subst h6
      obtain rfl : Tu.clr { t with st := 6 } = t' := by have := HR.out; rwa [if_pos rfl] at this
      obtain ⟨hca, hcb⟩ := HOK.out.clrOk HH.out.a.ok HH.out.b.ok
      have HC := Lib.hid (vclear_any T cap { t with st := 6 } _ rfl hca hcb)
      clear hca hcb
      go_wp2_with (fail)
      have hw6 : w.setCell ⟨T.b, 0, none⟩ (.int .i64 6) = W := HW.out
      rw [hw6]
      clear hw6
      refine (HC.out _ HH.out).mono ?_
      rintro e w2 ⟨rfl, ha, hb, hk⟩
      have HF := Lib.hid (HH.out.clrd ha hb hk (by simp))
      have HKK := Lib.hid (hk.mono (S' := T.l) T.sub2)
      clear ha hb hk
      go_wp2
      go_ret
      exact ⟨rfl, HF.out, HK.out.trans HKK.out⟩
    · obtain rfl : { t with st := s } = t' := by have := HR.out; rwa [if_neg h6] at this
      have h6' : ((s : Int) == 6) = false := by simp; omega
      clear h6
      go_wp2
      go_ret
      rw [HW.out]
      exact ⟨rfl, HH.out, HK.out⟩

set_option maxHeartbeats 1000000 in
theorem vStop_any (T : RT) (cap : Nat) (t t' : Tu) (n : Nat) (hr : t.stop = (n, t')) (w : World) (h : RtAt w T cap t) :
    Calls Tryz.prog 28 #[.pointer (some ⟨T.b, 0, none⟩)] w fun e w' => e = .returned (.int .i64 n) ∧ RtAt w' T cap t' ∧ Keeps T.l w w' := by
  unfold Tu.stop at hr
  obtain ⟨hn, rfl⟩ : t.a.i.length + t.b.i.length = n ∧ Tu.clr { t with st := if 5 ≤ t.st then t.st else 6 } = t' := by simpa using hr
  have hst := h.ok.st
  obtain ⟨a1, a2, -, -⟩ := RT.apart h.nd
  obtain ⟨hca, hcb⟩ := h.ok.clrOk h.a.ok h.b.ok
  have HC := Lib.hid (vclear_any T cap t n hn hca hcb w h)
  have H := Lib.hid h
  have HA := Lib.hid (show T.b ∉ T.x.l ++ T.y.l by simpa using ⟨a1, a2⟩)
  obtain ⟨u, hu⟩ : ∃ u, (if 5 ≤ t.st then t.st else 6) = u := ⟨_, rfl⟩
  rw [hu]
  have HU := Lib.hid hu
  clear hr hn hca hcb h a1 a2 hu
  go_enter Tryz.func28, Tryz.ntmps28
  go_wp2_with (fail)
  refine HC.out.mono ?_
  rintro e w1 ⟨rfl, ha, hb, hk⟩
  have hd := H.out.head.keeps hk HA.out
  have c0 := hd.cell 0
  have f0 := hd.frozen 0
  simp only [List.getElem?_toArray, List.getElem?_cons_zero] at c0
  have hi := fun b h => risEnd_any t.st b h w1
  have HD := Lib.hid hd
  have HAA := Lib.hid ha
  have HBB := Lib.hid hb
  have HK := Lib.hid hk
  clear hk hd ha hb
  by_cases h5 : 5 ≤ t.st
  · have HI := Lib.hid (hi true (by simp; omega))
    obtain rfl : t.st = u := by have := HU.out; rwa [if_pos h5] at this
    have H5 := Lib.hid h5
    clear hi h5
    go_wp2_with (fail)
    refine HI.out.mono ?_
    rintro e w2 ⟨rfl, rfl⟩
    go_wp2
    go_ret
    exact ⟨rfl, H.out.clrd HAA.out HBB.out HK.out H5.out, HK.out.mono T.sub2⟩
  · have HI := Lib.hid (hi false (by simp; omega))
    obtain rfl : 6 = u := by have := HU.out; rwa [if_neg h5] at this
    clear hi h5
    go_wp2_with (fail)
    refine HI.out.mono ?_
    rintro e w2 ⟨rfl, rfl⟩
    go_wp2
    go_ret
    obtain ⟨b1, b2, b3, b4⟩ := RT.apart H.out.nd
    have hk2 : Keeps [T.b] w1 (w1.setCell ⟨T.b, 0, none⟩ (.int .i64 6)) := (Keeps.refl [T.b] w1).setCell (p := ⟨T.b, 0, none⟩) (.inl (by simp)) _
    exact ⟨rfl, ⟨by simpa [Tu.clr] using HD.out.set_ 0 (.int .i64 6), HAA.out.keeps hk2 (fun k hm hn => by simp only [List.mem_singleton] at hn; subst hn; exact b1 hm), HBB.out.keeps hk2 (fun k hm hn => by simp only [List.mem_singleton] at hn; subst hn; exact b2 hm), H.out.nd,
      ⟨by simp [Tu.clr], .inr ⟨rfl, by simp [Tu.clr]⟩, .inr ⟨rfl, by simp [Tu.clr]⟩⟩⟩, (HK.out.mono T.sub2).trans (hk2.mono (by simpa using T.sub.2.2))⟩

set_option maxHeartbeats 1000000 in
theorem vCounts_any (T : RT) (cap : Nat) (t : Tu) (side : Int) (x y z : Nat) (hr : t.counts side = (x, y, z)) (w : World) (h : RtAt w T cap t) :
    Calls Tryz.prog 30 #[.pointer (some ⟨T.b, 0, none⟩), .int .i64 side] w fun e w' => e = .returned (.tuple #[.int .i64 x, .int .i64 y, .int .i64 z]) ∧ Keeps [] w w' := by
  unfold Tu.counts at hr
  cases hs : sideB side with
  | false =>
    rw [hs, if_neg (by simp)] at hr
    obtain ⟨rfl, rfl, rfl⟩ := hr3 hr
    have HS := Lib.hid (vside_any side false hs)
    clear hr hs h
    go_enter Tryz.func30, Tryz.ntmps30
    go_wp2_with (fail)
    refine (HS.out _).mono ?_
    rintro e w1 ⟨rfl, rfl⟩
    go_wp2
    exact bodyPost_ret (v := .tuple #[.int .i64 (0 : Nat), .int .i64 (0 : Nat), .int .i64 (0 : Nat)]) (by simp [results, Tryz.results30, go_sem]) rfl ⟨rfl, Keeps.refl _ _⟩
  | true =>
    rw [hs, if_pos rfl] at hr
    obtain ⟨rfl, rfl, rfl⟩ := hr3 hr
    have HS := Lib.hid (vside_any side true hs)
    have hs' : side = 0 ∨ side = 1 := by simpa [sideB] using hs
    have hw := h.way side
    have k0 : w.cell? ⟨T.b, 1, none⟩ = some (.pointer (some ⟨(T.wl 0).b, 0, none⟩)) := h.c1
    have k1 : w.cell? ⟨T.b, 2, none⟩ = some (.pointer (some ⟨(T.wl 1).b, 0, none⟩)) := h.c2
    have q0 := hw.c4
    have q1 := hw.c5
    have q2 := hw.c6
    clear hr hs h hw
    rcases hs' with rfl | rfl
    all_goals
      go_enter Tryz.func30, Tryz.ntmps30
      go_wp2_with (fail)
      refine (HS.out _).mono ?_
      rintro e w1 ⟨rfl, rfl⟩
      go_wp2_with (fail)
      go_quiet (fail)
      go_wp2
      exact bodyPost_ret (v := .tuple #[.int .i64 _, .int .i64 _, .int .i64 _]) (by simp [results, Tryz.results30, go_sem]) rfl ⟨rfl, (Keeps.refl [] w).drewN _⟩
end Go.Proofs.YtollcbacpoohlaaGreatDoor
