/- A tunnel in memory; the walks of isOpen, moves, State, on. -/
import Derived.Test.YtollcbacpoohlaaGreatDoorTunM
import Derived.Test.YtollcbacpoohlaaGreatDoorTunE
import Derived.Test.YtollcbacpoohlaaGreatDoorGoto
import Derived.Test.YtollcbacpoohlaaGreatDoorStreamC
namespace Go.Proofs.YtollcbacpoohlaaGreatDoor
open Go.RowKit

/-- A tunnel: its state, its ways forth and back. -/
structure Tu where
  st : Nat
  a : Wy
  b : Wy
/-- Where it lies. -/
structure TL where
  b : Nat
  x : WL
  y : WL
def TL.l (L : TL) : List Nat := L.b :: (L.x.l ++ L.y.l)

structure TuOk (t : Tu) : Prop where
  st : t.st ≤ 6
  a : t.a.f = t.a.s + t.a.i.length ∨ t.a.i = [] ∧ 5 ≤ t.st
  b : t.b.f = t.b.s + t.b.i.length ∨ t.b.i = [] ∧ 5 ≤ t.st

structure TuAt (w : World) (L : TL) (cap : Nat) (t : Tu) : Prop where
  head : Blk w L.b 57 #[.int .i64 t.st, .pointer (some ⟨L.x.b, 0, none⟩), .pointer (some ⟨L.y.b, 0, none⟩)]
  a : WyAt w L.x cap t.a
  b : WyAt w L.y cap t.b
  nd : L.l.Nodup
  nz : 0 ∉ L.l
  ok : TuOk t

section
variable {w w' : World} {L : TL} {cap : Nat} {t : Tu} {S : List Nat}
theorem TL.sub (L : TL) : (∀ k ∈ L.x.l, k ∈ L.l) ∧ (∀ k ∈ L.y.l, k ∈ L.l) ∧ L.b ∈ L.l := by
  refine ⟨fun k hk => ?_, fun k hk => ?_, ?_⟩ <;> simp [TL.l, *]
theorem TuAt.keeps (h : TuAt w L cap t) (hk : Keeps S w w') (hn : ∀ k ∈ L.l, k ∉ S) : TuAt w' L cap t :=
  ⟨h.head.keeps hk (hn _ L.sub.2.2), h.a.keeps hk (fun k hm => hn k (L.sub.1 k hm)), h.b.keeps hk (fun k hm => hn k (L.sub.2.1 k hm)), h.nd, h.nz, h.ok⟩
theorem TuAt.keep (h : TuAt w L cap t) (hk : Keeps [] w w') : TuAt w' L cap t := h.keeps hk (by simp)
theorem TuAt.c0 (h : TuAt w L cap t) : w.cell? ⟨L.b, 0, none⟩ = some (.int .i64 t.st) := h.head.cell 0
theorem TuAt.c1 (h : TuAt w L cap t) : w.cell? ⟨L.b, 1, none⟩ = some (.pointer (some ⟨L.x.b, 0, none⟩)) := h.head.cell 1
theorem TuAt.c2 (h : TuAt w L cap t) : w.cell? ⟨L.b, 2, none⟩ = some (.pointer (some ⟨L.y.b, 0, none⟩)) := h.head.cell 2
theorem TL.apart {L : TL} (h : L.l.Nodup) : L.b ∉ L.x.l ∧ L.b ∉ L.y.l ∧ (∀ k ∈ L.x.l, k ∉ L.y.l) ∧ ∀ k ∈ L.y.l, k ∉ L.x.l := by
  unfold TL.l at h
  rw [List.nodup_cons, List.mem_append, List.nodup_append] at h
  obtain ⟨h1, _, _, h2⟩ := h
  exact ⟨fun hm => h1 (.inl hm), fun hm => h1 (.inr hm), fun k hk hm => h2 k hk k hm rfl, fun k hk hm => h2 k hm k hk rfl⟩
/-- One way has turned. -/
theorem TuAt.setA (h : TuAt w L cap t) {y : Wy} (hy : WyAt w' L.x cap y) (hk : Keeps L.x.l w w') (ho : TuOk { t with a := y }) : TuAt w' L cap { t with a := y } ∧ Keeps L.l w w' :=
  ⟨⟨h.head.keeps hk (TL.apart h.nd).1, hy, h.b.keeps hk (TL.apart h.nd).2.2.2, h.nd, h.nz, ho⟩, hk.mono L.sub.1⟩
theorem TuAt.setB (h : TuAt w L cap t) {y : Wy} (hy : WyAt w' L.y cap y) (hk : Keeps L.y.l w w') (ho : TuOk { t with b := y }) : TuAt w' L cap { t with b := y } ∧ Keeps L.l w w' :=
  ⟨⟨h.head.keeps hk (TL.apart h.nd).2.1, h.a.keeps hk (TL.apart h.nd).2.2.1, hy, h.nd, h.nz, ho⟩, hk.mono L.sub.2.1⟩
end

theorem uState_any (L : TL) (cap : Nat) (t : Tu) (w : World) (h : TuAt w L cap t) :
    Calls Tryz.prog 9 #[.pointer (some ⟨L.b, 0, none⟩)] w fun e w' => e = .returned (.int .i64 t.st) ∧ w = w' := by
  have c0 := h.c0
  clear h
  go_enter Tryz.func9, Tryz.ntmps9
  go_wp2
  go_ret
  exact ⟨rfl, rfl⟩

theorem umoves_any (s : Nat) (b : Bool) (hb : decide (2 ≤ s ∧ s ≤ 5) = b) (w : World) :
    Calls Tryz.prog 39 #[.agg #[.int .i64 s]] w fun e w' => e = .returned (.bool b) ∧ Keeps [] w w' := by
  by_cases h : 2 ≤ s
  · have h1 : decide ((2 : Int) ≤ (s : Int)) = true := by simp; omega
    go_enter Tryz.func39, Tryz.ntmps39
    go_wp2
    go_ret
    exact ⟨ret_bool (by rw [← hb]; congr 1; simp only [eq_iff_iff]; omega), (Keeps.refl [] w).alloc _⟩
  · have h1 : decide ((2 : Int) ≤ (s : Int)) = false := by simp; omega
    obtain rfl : b = false := by rw [← hb]; simp; omega
    clear hb
    go_enter Tryz.func39, Tryz.ntmps39
    go_wp2
    go_ret
    exact ⟨rfl, (Keeps.refl [] w).alloc _⟩

/-- May bytes go on? -/
def openB (s : Nat) (side : Int) : Bool := if side = 0 then decide (s = 2) || decide (s = 4) else decide (s = 2) || decide (s = 3)

theorem uisOpen_any (s : Nat) (side : Int) (b : Bool) (hb : openB s side = b) (w : World) :
    Calls Tryz.prog 34 #[.agg #[.int .i64 s], .int .i64 side] w fun e w' => e = .returned (.bool b) ∧ Keeps [] w w' := by
  unfold openB at hb
  by_cases h : side = 0
  · subst h
    rw [if_pos rfl] at hb
    have hi := in_any s
    rw [show decide ((s : Int) = 2) = decide (s = 2) by congr 1; simp only [eq_iff_iff]; omega, show decide ((s : Int) = 4) = decide (s = 4) by congr 1; simp only [eq_iff_iff]; omega, hb] at hi
    have HI := Lib.hid hi
    clear hi hb
    go_enter Tryz.func34, Tryz.ntmps34
    go_wp2_with (fail)
    refine (HI.out _).mono ?_
    rintro e w1 ⟨rfl, hk⟩
    have HK := Lib.hid (((Keeps.refl [] w).alloc _).trans hk)
    clear hk
    go_wp2
    go_ret
    exact ⟨rfl, HK.out⟩
  · rw [if_neg h] at hb
    have hi := out_any s
    rw [show decide ((s : Int) = 2) = decide (s = 2) by congr 1; simp only [eq_iff_iff]; omega, show decide ((s : Int) = 3) = decide (s = 3) by congr 1; simp only [eq_iff_iff]; omega, hb] at hi
    have HI := Lib.hid hi
    have hs : (side == 0) = false := by simpa using h
    clear hi hb h
    go_enter Tryz.func34, Tryz.ntmps34
    go_wp2_with (fail)
    refine (HI.out _).mono ?_
    rintro e w1 ⟨rfl, hk⟩
    have HK := Lib.hid (((Keeps.refl [] w).alloc _).trans hk)
    clear hk
    go_wp2
    go_ret
    exact ⟨rfl, HK.out⟩

set_option maxRecDepth 100000 in
set_option maxHeartbeats 1000000 in
/-- on, of what is no side. -/
theorem on_bad (v : Value) (b : Nat) (side : Int) (h0 : side ≠ 0) (h1 : side ≠ 1) (w : World) :
    Calls Tryz.prog 32 #[.pointer (some ⟨b, 0, none⟩), .int .i64 side, v] w fun e w' => e = .returned (.iface 75 (.agg #[.int .i64 170])) ∧ w = w' := by
  have a0 : (side != 0) = true := by simpa using h0
  have a1 : (side != 1) = true := by simpa using h1
  clear h0 h1
  go_enter Tryz.func32, Tryz.ntmps32
  go_wp2_with (fail)
  refine wp_scope_fwd 0 rfl ?_
  go_wp2_with (fail)
  go_step3
  refine (show (0 : Nat) = 0 ∧ Code.wp _ _ _ _ _ from ⟨rfl, ?_⟩)
  go_wp2_with (fail)
  rw [Exit.noGoto_ret]
  go_ret
  exact ⟨rfl, rfl⟩

set_option maxRecDepth 100000 in
set_option maxHeartbeats 1000000 in
/-- on, forth. -/
theorem on_a (f : Nat) (cs : Array Value) (hrun : ∀ args W, Sem.run Tryz.prog (callFunc f args) W = .ok (.enter f args) W) (b p : Nat) (w : World) (hc : w.cell? ⟨b, 1, none⟩ = some (.pointer (some ⟨p, 0, none⟩))) (v : Value) (R : World → Prop)
    (hf : Calls Tryz.prog f (#[.pointer (some ⟨p, 0, none⟩)] ++ cs) w fun e w' => e = .returned v ∧ R w') :
    Calls Tryz.prog 32 #[.pointer (some ⟨b, 0, none⟩), .int .i64 0, .func (.func f) #[] cs] w fun e w' => e = .returned v ∧ R w' := by
  have HR := Lib.hid hrun
  have HF := Lib.hid hf
  clear hrun hf
  go_enter Tryz.func32, Tryz.ntmps32
  go_wp2_with (fail)
  refine wp_scope_fwd 0 rfl ?_
  go_wp2_with (fail)
  rw [HR.out, Oper.upon_enter]
  refine HF.out.mono ?_
  rintro e w1 ⟨rfl, hr⟩
  have HRR := Lib.hid hr
  clear hr
  dsimp only [Act.put]
  go_wp2_with (fail)
  go_step3
  go_wp2_with (fail)
  simp only [Exit.jump]
  go_ret
  exact ⟨rfl, HRR.out⟩

set_option maxRecDepth 100000 in
set_option maxHeartbeats 1000000 in
/-- on, back. -/
theorem on_b (f : Nat) (cs : Array Value) (hrun : ∀ args W, Sem.run Tryz.prog (callFunc f args) W = .ok (.enter f args) W) (b p : Nat) (w : World) (hc : w.cell? ⟨b, 2, none⟩ = some (.pointer (some ⟨p, 0, none⟩))) (v : Value) (R : World → Prop)
    (hf : Calls Tryz.prog f (#[.pointer (some ⟨p, 0, none⟩)] ++ cs) w fun e w' => e = .returned v ∧ R w') :
    Calls Tryz.prog 32 #[.pointer (some ⟨b, 0, none⟩), .int .i64 1, .func (.func f) #[] cs] w fun e w' => e = .returned v ∧ R w' := by
  have HR := Lib.hid hrun
  have HF := Lib.hid hf
  clear hrun hf
  go_enter Tryz.func32, Tryz.ntmps32
  go_wp2_with (fail)
  refine wp_scope_fwd 0 rfl ?_
  go_wp2_with (fail)
  rw [HR.out, Oper.upon_enter]
  refine HF.out.mono ?_
  rintro e w1 ⟨rfl, hr⟩
  have HRR := Lib.hid hr
  clear hr
  dsimp only [Act.put]
  go_wp2_with (fail)
  go_step3
  go_wp2_with (fail)
  simp only [Exit.jump]
  go_ret
  exact ⟨rfl, HRR.out⟩
end Go.Proofs.YtollcbacpoohlaaGreatDoor
