/- A tunnel's calls in plain Lean, and what they keep. -/
import Derived.Test.YtollcbacpoohlaaGreatDoorTunF
namespace Go.Proofs.YtollcbacpoohlaaGreatDoor
open Go.RowKit

def Tu.at_ (t : Tu) (side : Int) : Wy := if side = 1 then t.b else t.a
def Tu.set (t : Tu) (side : Int) (y : Wy) : Tu := if side = 1 then { t with b := y } else { t with a := y }
def TL.wl (L : TL) (side : Int) : WL := if side = 1 then L.y else L.x
def sideB (side : Int) : Bool := decide (side = 0) || decide (side = 1)
def movesB (s : Nat) : Bool := decide (2 ≤ s ∧ s ≤ 5)

def Tu.grant (t : Tu) (side n : Int) : Int × Tu := if sideB side then ((grantA (t.at_ side).g (t.at_ side).s n).2.2, t.set side ((t.at_ side).grant n)) else (170, t)
def Tu.feed (cap : Nat) (t : Tu) (side : Int) (s : List UInt8) : Nat × Int × Tu :=
  if sideB side then (if openB t.st side then ((t.at_ side).n cap s, 0, t.set side ((t.at_ side).feed cap s)) else (0, 171, t)) else (0, 170, t)
def Tu.move (cap : Nat) (t : Tu) (side n : Int) : Nat × Int × Tu :=
  if sideB side then (if movesB t.st then (if n < 0 then (0, 2, t) else ((t.at_ side).k cap n.toNat, 0, t.set side ((t.at_ side).move cap n.toNat))) else (0, 171, t)) else (0, 170, t)
def Tu.drain (t : Tu) (side n : Int) : List UInt8 × Int × Tu :=
  if sideB side then ((t.at_ side).o.take n.toNat, 0, t.set side ((t.at_ side).drain n)) else ([], 170, t)
def Tu.clr (t : Tu) : Tu := { t with a := t.a.clr, b := t.b.clr }
def Tu.event (t : Tu) (e : Int) : Int × Tu :=
  match nxt t.st e with
  | some s => (0, if s = 6 then Tu.clr { t with st := s } else { t with st := s })
  | none => (140, t)
def Tu.stop (t : Tu) : Nat × Tu := (t.a.i.length + t.b.i.length, Tu.clr { t with st := if 5 ≤ t.st then t.st else 6 })

section
variable {cap : Nat} {t : Tu} {side : Int} {y : Wy}
theorem TuOk.at_ (h : TuOk t) (side : Int) : (t.at_ side).f = (t.at_ side).s + (t.at_ side).i.length ∨ (t.at_ side).i = [] ∧ 5 ≤ t.st := by
  unfold Tu.at_; split
  · exact h.b
  · exact h.a
theorem TuOk.set (h : TuOk t) (side : Int) (hy : y.f = y.s + y.i.length ∨ y.i = [] ∧ 5 ≤ t.st) : TuOk (t.set side y) := by
  unfold Tu.set; split
  · exact ⟨h.st, h.a, hy⟩
  · exact ⟨h.st, hy, h.b⟩
theorem openB_le {s : Nat} {side : Int} (h : openB s side = true) : s ≤ 4 := by
  unfold openB at h
  split at h <;> simp at h <;> omega
theorem TuOk.grant (h : TuOk t) (side n : Int) : TuOk (t.set side ((t.at_ side).grant n)) := h.set side (by
  have := h.at_ side
  unfold Wy.grant; split <;> exact this)
theorem TuOk.feed (h : TuOk t) (_hy : WyOk cap (t.at_ side)) (s : List UInt8) (ho : openB t.st side = true) : TuOk (t.set side ((t.at_ side).feed cap s)) := h.set side (by
  have h1 := h.at_ side
  have h2 := openB_le ho
  obtain ⟨h3, h4⟩ := (t.at_ side).n_le cap s
  left
  have : (t.at_ side).f = (t.at_ side).s + (t.at_ side).i.length := by
    rcases h1 with h1 | ⟨_, h1⟩
    · exact h1
    · omega
  simp only [Wy.feed, List.length_append, List.length_take]
  omega)
theorem TuOk.move (h : TuOk t) (side : Int) (n : Nat) : TuOk (t.set side ((t.at_ side).move cap n)) := h.set side (by
  have h1 := h.at_ side
  obtain ⟨h3, h4, h5, h6⟩ := (t.at_ side).k_le cap n
  simp only [Wy.move, List.length_drop]
  rcases h1 with h1 | ⟨h1, h2⟩
  · left; omega
  · right; exact ⟨by rw [h1, List.drop_nil], h2⟩)
theorem TuOk.drain (h : TuOk t) (side n : Int) : TuOk (t.set side ((t.at_ side).drain n)) := h.set side (h.at_ side)
end

section
variable {w w' : World} {L : TL} {cap : Nat} {t : Tu}
theorem TuAt.way (h : TuAt w L cap t) (side : Int) : WyAt w (L.wl side) cap (t.at_ side) := by
  unfold TL.wl Tu.at_
  split
  · exact h.b
  · exact h.a
theorem TL.wl_sub (L : TL) (side : Int) : ∀ k ∈ (L.wl side).l, k ∈ L.l := by
  unfold TL.wl
  split
  · exact L.sub.2.1
  · exact L.sub.1
/-- One way has turned, and blocks that are none of the tunnel's. -/
theorem TuAt.setW {S : List Nat} (h : TuAt w L cap t) (side : Int) {y : Wy} (hy : WyAt w' (L.wl side) cap y) (hk : Keeps (S ++ (L.wl side).l) w w') (hS : ∀ k ∈ S, k ∉ L.l) (ho : TuOk (t.set side y)) : TuAt w' L cap (t.set side y) := by
  have hn : ∀ k, k ∈ L.l → k ∉ (L.wl side).l → k ∉ S ++ (L.wl side).l := fun k h1 h2 h3 => by
    rcases List.mem_append.1 h3 with h3 | h3
    · exact hS k h3 h1
    · exact h2 h3
  obtain ⟨a1, a2, a3, a4⟩ := TL.apart h.nd
  unfold TL.wl at hy hk hn
  unfold Tu.set at ho ⊢
  split at hy
  · rename_i hs
    rw [if_pos hs] at ho hk ⊢
    simp only [if_pos hs] at hn
    exact ⟨h.head.keeps hk (hn _ L.sub.2.2 a2), h.a.keeps hk (fun k hm => hn k (L.sub.1 k hm) (a3 k hm)), hy, h.nd, h.nz, ho⟩
  · rename_i hs
    rw [if_neg hs] at ho hk ⊢
    simp only [if_neg hs] at hn
    exact ⟨h.head.keeps hk (hn _ L.sub.2.2 a1), hy, h.b.keeps hk (fun k hm => hn k (L.sub.2.1 k hm) (a4 k hm)), h.nd, h.nz, ho⟩
end

theorem on_side (f : Nat) (cs : Array Value) (hrun : ∀ args W, Sem.run Tryz.prog (callFunc f args) W = .ok (.enter f args) W) (L : TL) (cap : Nat) (t : Tu) (side : Int) (hs : sideB side = true) (w : World) (h : TuAt w L cap t) (v : Value) (R : World → Prop)
    (hf : Calls Tryz.prog f (#[.pointer (some ⟨(L.wl side).b, 0, none⟩)] ++ cs) w fun e w' => e = .returned v ∧ R w') :
    Calls Tryz.prog 32 #[.pointer (some ⟨L.b, 0, none⟩), .int .i64 side, .func (.func f) #[] cs] w fun e w' => e = .returned v ∧ R w' := by
  have hs' : side = 0 ∨ side = 1 := by simpa [sideB] using hs
  rcases hs' with rfl | rfl
  · exact on_a f cs hrun L.b L.x.b w h.c1 v R hf
  · exact on_b f cs hrun L.b L.y.b w h.c2 v R hf
theorem on_none (L : TL) (side : Int) (hs : sideB side = false) (v : Value) (w : World) :
    Calls Tryz.prog 32 #[.pointer (some ⟨L.b, 0, none⟩), .int .i64 side, v] w fun e w' => e = .returned (errW 170) ∧ w = w' := by
  have hs' : side ≠ 0 ∧ side ≠ 1 := by simpa [sideB] using hs
  exact on_bad v L.b side hs'.1 hs'.2 w

set_option maxRecDepth 100000 in
theorem ent_grant1 : ∀ args W, Sem.run Tryz.prog (callFunc 36 args) W = .ok (.enter 36 args) W := enters rfl rfl rfl
set_option maxRecDepth 100000 in
theorem ent_feed1 : ∀ args W, Sem.run Tryz.prog (callFunc 33 args) W = .ok (.enter 33 args) W := enters rfl rfl rfl
set_option maxRecDepth 100000 in
theorem ent_move1 : ∀ args W, Sem.run Tryz.prog (callFunc 38 args) W = .ok (.enter 38 args) W := enters rfl rfl rfl
set_option maxRecDepth 100000 in
theorem ent_drain1 : ∀ args W, Sem.run Tryz.prog (callFunc 41 args) W = .ok (.enter 41 args) W := enters rfl rfl rfl
set_option maxRecDepth 100000 in
theorem ent_counts1 : ∀ args W, Sem.run Tryz.prog (callFunc 60 args) W = .ok (.enter 60 args) W := enters rfl rfl rfl
end Go.Proofs.YtollcbacpoohlaaGreatDoor
