/- The walk of the document's tunnel's Move. -/
import Derived.Test.YtollcbacpoohlaaGreatDoorTunRC
namespace Go.Proofs.YtollcbacpoohlaaGreatDoor
open Go.RowKit
attribute [local go_sem ↓] Go.wp_at_zero Go.wp_at_succ

theorem run_min4 {P : Program} {w : World} (ts : Array TypeId) (t : TypeId) (k1 k2 k3 k4 : IntKind) (x y z u : Int) (m1 m2 m3 : Int) (h1 : (if y < x then y else x) = m1) (h2 : (if z < m1 then z else m1) = m2) (h3 : (if u < m2 then u else m2) = m3) :
    (Builtin.min_ ts t #[.int k1 x, .int k2 y, .int k3 z, .int k4 u]).run P w = .ok (.int k1 m3) w := by
  subst h1 h2 h3
  simp [Builtin.min_, Builtin.min2]

section
variable {w0 w w' : World} {R : RL} {cap : Nat} {y : Wy} {T : RT} {t : Tu}
theorem RMid.popK (h : RMid w0 w R cap y y.i y.o) (hn : R.l.Nodup) (k : Nat) (s : ByteArray) (hs : str (y.i.take k) = s) :
    Calls Tryz.prog 57 #[.pointer (some ⟨R.i, 0, none⟩), .int .i64 k] w fun e w' => e = .returned (.string s) ∧ RMid w0 w' R cap y (y.i.drop k) y.o ∧ w'.cell? ⟨R.b, 0, none⟩ = some (.pointer (some ⟨R.i, 0, none⟩)) ∧ w'.cell? ⟨R.b, 1, none⟩ = some (.pointer (some ⟨R.o, 0, none⟩)) := by
  have := h.popI hn k s (by rw [Int.toNat_natCast]; exact hs)
  rw [Int.toNat_natCast] at this
  exact this.mono fun _ _ ⟨h1, h2⟩ => ⟨h1, h2, h2.head.cell 0, h2.head.cell 1⟩
theorem RMid.pushK {k : Nat} (h : RMid w0 w R cap y (y.i.drop k) y.o) (hn : R.l.Nodup) (hc : cap ≤ 4096) (ho : WyOk cap y) (n : Nat) (hk : y.k cap n = k) (s : ByteArray) (hs : str (y.i.take k) = s) :
    Calls Tryz.prog 55 #[.pointer (some ⟨R.o, 0, none⟩), .string s] w fun e w' => e = .returned (.int .i64 k) ∧ RMid w0 w' R cap y (y.i.drop k) (y.o ++ y.i.take k) ∧ w'.cell? ⟨R.b, 0, none⟩ = some (.pointer (some ⟨R.i, 0, none⟩)) ∧ w'.cell? ⟨R.b, 1, none⟩ = some (.pointer (some ⟨R.o, 0, none⟩)) := by
  have hkl := y.k_le cap n
  rw [hk] at hkl
  have hts : s.size = k := by rw [← hs, str_size, List.length_take]; omega
  have htl : s.data.toList = y.i.take k := by rw [← hs, str_toList]
  have := ho.i
  have hp := h.pushO hn hc ho.o s (by omega) k (by omega)
  rw [htl, List.take_take, Nat.min_self] at hp
  exact hp.mono fun _ _ ⟨h1, h2⟩ => ⟨h1, h2, h2.head.cell 0, h2.head.cell 1⟩
end

theorem RMid.moved {w0 w : World} {T : RT} {cap : Nat} {t : Tu} {side : Int} {n k sp : Nat} (hk : (t.at_ side).k cap n = k) (hsp : (t.at_ side).s + k = sp) (hm : RMid w0 w (T.wl side) cap (t.at_ side) ((t.at_ side).i.drop k) ((t.at_ side).o ++ (t.at_ side).i.take k)) (h : RtAt w0 T cap t) :
    RtAt (((w.setCell ⟨(T.wl side).b, 2, none⟩ (.int .i64 (t.at_ side).g)).setCell ⟨(T.wl side).b, 3, none⟩ (.int .i64 sp)).setCell ⟨(T.wl side).b, 5, none⟩ (.int .i64 (((t.at_ side).s : Int) + (k : Int)))) T cap (t.set side ((t.at_ side).move cap n)) ∧
    Keeps T.l w0 (((w.setCell ⟨(T.wl side).b, 2, none⟩ (.int .i64 (t.at_ side).g)).setCell ⟨(T.wl side).b, 3, none⟩ (.int .i64 sp)).setCell ⟨(T.wl side).b, 5, none⟩ (.int .i64 (((t.at_ side).s : Int) + (k : Int)))) := by
  have hd := (blk7_set ((blk7_set hm.head).2.2.2 (.int .i64 (t.at_ side).g) (.int .i64 sp))).2.1 (.int .i64 (((t.at_ side).s : Int) + (k : Int)))
  have hks : Keeps [(T.wl side).b] w (((w.setCell ⟨(T.wl side).b, 2, none⟩ (.int .i64 (t.at_ side).g)).setCell ⟨(T.wl side).b, 3, none⟩ (.int .i64 sp)).setCell ⟨(T.wl side).b, 5, none⟩ (.int .i64 (((t.at_ side).s : Int) + (k : Int)))) :=
    (((Keeps.refl [(T.wl side).b] w).setCell (p := ⟨(T.wl side).b, 2, none⟩) (.inl (by simp)) _).setCell (p := ⟨(T.wl side).b, 3, none⟩) (.inl (by simp)) _).setCell (p := ⟨(T.wl side).b, 5, none⟩) (.inl (by simp)) _
  obtain ⟨z1, z2⟩ := hm.fin (h.way side) ((t.at_ side).move cap n) (by
    simp only [Wy.move, hk]
    rw [← Int.natCast_add, hsp] at hd ⊢
    exact hd) hks (by simp only [Wy.move, hk]) (by simp only [Wy.move, hk]) ((h.way side).ok.move n)
  exact h.setW side z1 z2 (h.ok.move side n)

set_option maxRecDepth 100000 in
set_option maxHeartbeats 4000000 in
theorem vMove_go (T : RT) (cap : Nat) (t : Tu) (side : Int) (hs : side = 0 ∨ side = 1) (n : Nat) (k : Nat) (hk : (t.at_ side).k cap n = k) (ho : movesB t.st = true) (w : World) (h : RtAt w T cap t) :
    Calls Tryz.prog 26 #[.pointer (some ⟨T.b, 0, none⟩), .int .i64 side, .int .i64 n] w fun e w' => e = .returned (.tuple #[.int .i64 k, .int .i64 0]) ∧ RtAt w' T cap (t.set side ((t.at_ side).move cap n)) ∧ Keeps T.l w w' := by
  have hsb : sideB side = true := by simpa [sideB] using hs
  have HS := Lib.hid (vside_any side true hsb)
  have hw := h.way side
  have c0 := h.c0
  have k0 : w.cell? ⟨T.b, 1, none⟩ = some (.pointer (some ⟨(T.wl 0).b, 0, none⟩)) := h.c1
  have k1 : w.cell? ⟨T.b, 2, none⟩ = some (.pointer (some ⟨(T.wl 1).b, 0, none⟩)) := h.c2
  have hst : 2 ≤ t.st ∧ t.st ≤ 5 := by simpa [movesB] using ho
  have t2 : ¬ (t.st : Int) < 2 := by omega
  have t5 : ¬ (5 : Int) < (t.st : Int) := by omega
  obtain ⟨si, hsi⟩ : ∃ si, str (t.at_ side).i = si := ⟨_, rfl⟩
  obtain ⟨so, hso⟩ : ∃ so, str (t.at_ side).o = so := ⟨_, rfl⟩
  have q0 := hw.c0
  have q1 := hw.c1
  have q2 := hw.c2
  have q3 := hw.c3
  have i1 := hw.fi.c1
  have o0 := hw.fo.c0
  have o1 := hw.fo.c1
  rw [hsi] at i1
  rw [hso] at o1
  have hsiz : si.size = (t.at_ side).i.length := by rw [← hsi, str_size]
  have hsoz : so.size = (t.at_ side).o.length := by rw [← hso, str_size]
  obtain ⟨lf, hlf⟩ : ∃ lf, (t.at_ side).g - (t.at_ side).s = lf := ⟨_, rfl⟩
  obtain ⟨rm, hrm⟩ : ∃ rm, cap - so.size = rm := ⟨_, rfl⟩
  obtain ⟨m1, hm1⟩ : ∃ m1, min n lf = m1 := ⟨_, rfl⟩
  obtain ⟨m2, hm2⟩ : ∃ m2, min m1 si.size = m2 := ⟨_, rfl⟩
  have hm3 : min m2 rm = k := by rw [← hm2, ← hm1, ← hrm, ← hlf, hsiz, hsoz, ← hk]; rfl
  have hoo := hw.ok.o
  have hcp := hw.cp
  have hwr : IntKind.i64.wrap ((cap : Int) - (so.size : Int)) = (rm : Int) := by rw [IntWalk.i64_in _ (by omega)]; omega
  have g1 : (if lf < n then (lf : Int) else (n : Int)) = (m1 : Int) := by split <;> omega
  have g2 : (if si.size < m1 then (si.size : Int) else (m1 : Int)) = (m2 : Int) := by split <;> omega
  have g3 : (if rm < m2 then (rm : Int) else (m2 : Int)) = (k : Int) := by split <;> omega
  have g1' : (if (lf : Int) < (n : Int) then (lf : Int) else (n : Int)) = (m1 : Int) := by split <;> omega
  have g2' : (if (si.size : Int) < (m1 : Int) then (si.size : Int) else (m1 : Int)) = (m2 : Int) := by split <;> omega
  have g3' : (if (rm : Int) < (m2 : Int) then (rm : Int) else (m2 : Int)) = (k : Int) := by split <;> omega
  have hmin := fun (wz : World) (ts : Array TypeId) (ty : TypeId) => run_min4 (P := Tryz.prog) (w := wz) ts ty .i64 .i64 .i64 .i64 (n : Int) (lf : Int) (si.size : Int) (rm : Int) _ _ _ g1' g2' g3'
  clear g1 g2 g3 g1' g2' g3'
  have HL := Lib.hid (hlf ▸ vLeft_any _ _ hw.ok.c)
  obtain ⟨sp, hsp⟩ : ∃ sp, (t.at_ side).s + k = sp := ⟨_, rfl⟩
  have hkl : k ≤ (t.at_ side).g - (t.at_ side).s := by have := (t.at_ side).k_le cap n; omega
  have hso2 : (t.at_ side).s + k ≤ 2000000000000 := by have := okC_le hw.ok.c; omega
  have hwr2 : IntKind.i64.wrap (((t.at_ side).s : Int) + (k : Int)) = ((t.at_ side).s : Int) + (k : Int) := IntWalk.i64_in _ (by omega)
  have HSD := Lib.hid (vSpend_ok _ _ k sp hsp hw.ok.c hkl)
  obtain ⟨tk, htk⟩ : ∃ tk, str ((t.at_ side).i.take k) = tk := ⟨_, rfl⟩
  have HP := Lib.hid (fun (wz : World) (hz : RMid w wz (T.wl side) cap (t.at_ side) (t.at_ side).i (t.at_ side).o) => hz.popK hw.nd k tk htk)
  have HQ := Lib.hid (fun (wz : World) (hz : RMid w wz (T.wl side) cap (t.at_ side) ((t.at_ side).i.drop k) (t.at_ side).o) => hz.pushK hw.nd hw.cp hw.ok n hk tk htk)
  have HM0 := Lib.hid hw.mid
  have H := Lib.hid h
  have HKK := Lib.hid hk
  have HSP := Lib.hid hsp
  clear hsb h hw hst ho hk hsi hso hsiz hsoz hlf hrm hm1 hm2 hm3 hoo hcp hsp hkl hso2 htk
  rcases hs with rfl | rfl
  · go_enter Tryz.func26, Tryz.ntmps26
    go_wp2_with (fail)
    refine (HS.out _).mono ?_
    rintro e w1 ⟨rfl, rfl⟩
    go_wp2_with (fail)
    go_cut [9] (fun m wx => m = .int .i64 k ∧ Keeps [] w wx)
    case first =>
      refine wp_region_held_drew (S := (fun w' : World => w'.cell? ⟨(T.wl 0).b, 0, none⟩ = some (.pointer (some ⟨(T.wl 0).i, 0, none⟩)) ∧ w'.cell? ⟨(T.wl 0).b, 1, none⟩ = some (.pointer (some ⟨(T.wl 0).o, 0, none⟩)) ∧ w'.cell? ⟨(T.wl 0).b, 2, none⟩ = some (.int .i64 (t.at_ 0).g) ∧ w'.cell? ⟨(T.wl 0).b, 3, none⟩ = some (.int .i64 (t.at_ 0).s) ∧ w'.cell? ⟨(T.wl 0).i, 1, none⟩ = some (.string si) ∧ w'.cell? ⟨(T.wl 0).o, 0, none⟩ = some (.int .i64 cap) ∧ w'.cell? ⟨(T.wl 0).o, 1, none⟩ = some (.string so))) (by kernel_rfl) ?_ (fun hHeld => ?_)
      · (try dsimp only); (first | exact ⟨q0, q1, q2, q3, i1, o0, o1⟩ | exact ⟨hcs _ _ q0, hcs _ _ q1, hcs _ _ q2, hcs _ _ q3, hcs _ _ i1, hcs _ _ o0, hcs _ _ o1⟩)
      refine wpAnyH_take (i := 0) (oi := { dst := some 35, op := Op.move (Operand.tmp 2), type := 3, pos := "ref.go:97", after := #[], guard := none }) (v := ?_) rfl (by kernel_rfl) (by kernel_rfl) (by kernel_rfl) (fun _ _ _ h => h) (Or.inl ⟨by rfl, ?_⟩) (by assumption) ?_
      rotate_left; · ((intro w hSw; (try dsimp only at hSw); go_simp); try with_reducible rfl)
      try simp only [Act.put, List.setIfInBounds_toArray, List.set_cons_zero, List.set_cons_succ]
      refine wpAnyH_take (i := 1) (oi := { dst := some 36, op := Op.move (Operand.tmp 8), type := 40, pos := "ref.go:97", after := #[], guard := none }) (v := ?_) rfl (by kernel_rfl) (by kernel_rfl) (by kernel_rfl) (fun _ _ _ h => h) (Or.inl ⟨by rfl, ?_⟩) (by assumption) ?_
      rotate_left; · ((intro w hSw; (try dsimp only at hSw); go_simp); try with_reducible rfl)
      try simp only [Act.put, List.setIfInBounds_toArray, List.set_cons_zero, List.set_cons_succ]
      refine wpAnyH_take (i := 2) (oi := { dst := some 37, op := Op.nilCheck (Operand.tmp 36), type := 0, pos := "ref.go:97", after := #[{ on := 1, ground := Ground.data }], guard := none }) (v := ?_) rfl (by kernel_rfl) (by kernel_rfl) (by kernel_rfl) (fun _ _ _ h => h) (Or.inl ⟨by rfl, ?_⟩) (by assumption) ?_
      rotate_left; · ((intro w hSw; (try dsimp only at hSw); go_simp); try with_reducible rfl)
      try simp only [Act.put, List.setIfInBounds_toArray, List.set_cons_zero, List.set_cons_succ]
      refine wpAnyH_take (i := 3) (oi := { dst := some 38, op := Op.fieldAddr 66 (Operand.tmp 37) 2, type := 0, pos := "ref.go:97", after := #[{ on := 2, ground := Ground.data }], guard := none }) (v := ?_) rfl (by kernel_rfl) (by kernel_rfl) (by kernel_rfl) (fun _ _ _ h => h) (Or.inl ⟨by rfl, ?_⟩) (by assumption) ?_
      rotate_left; · ((intro w hSw; (try dsimp only at hSw); go_simp); try with_reducible rfl)
      try simp only [Act.put, List.setIfInBounds_toArray, List.set_cons_zero, List.set_cons_succ]
      refine wpAnyH_take (i := 4) (oi := { dst := some 39, op := Op.load 64 (Operand.tmp 38), type := 64, pos := "ref.go:97", after := #[{ on := 3, ground := Ground.data }], guard := none }) (v := ?_) rfl (by kernel_rfl) (by kernel_rfl) (by kernel_rfl) (fun _ _ _ h => h) (Or.inl ⟨by rfl, ?_⟩) (by assumption) ?_
      rotate_left; · ((intro w hSw; (try dsimp only at hSw); go_simp); try with_reducible rfl)
      try simp only [Act.put, List.setIfInBounds_toArray, List.set_cons_zero, List.set_cons_succ]
      refine wpAnyH_take (i := 6) (oi := { dst := some 41, op := Op.move (Operand.tmp 8), type := 40, pos := "ref.go:97", after := #[], guard := none }) (v := ?_) rfl (by kernel_rfl) (by kernel_rfl) (by kernel_rfl) (fun _ _ _ h => h) (Or.inl ⟨by rfl, ?_⟩) (by assumption) ?_
      rotate_left; · ((intro w hSw; (try dsimp only at hSw); go_simp); try with_reducible rfl)
      try simp only [Act.put, List.setIfInBounds_toArray, List.set_cons_zero, List.set_cons_succ]
      refine wpAnyH_take (i := 7) (oi := { dst := some 42, op := Op.nilCheck (Operand.tmp 41), type := 0, pos := "ref.go:97", after := #[{ on := 6, ground := Ground.data }], guard := none }) (v := ?_) rfl (by kernel_rfl) (by kernel_rfl) (by kernel_rfl) (fun _ _ _ h => h) (Or.inl ⟨by rfl, ?_⟩) (by assumption) ?_
      rotate_left; · ((intro w hSw; (try dsimp only at hSw); go_simp); try with_reducible rfl)
      try simp only [Act.put, List.setIfInBounds_toArray, List.set_cons_zero, List.set_cons_succ]
      refine wpAnyH_take (i := 8) (oi := { dst := some 43, op := Op.fieldAddr 66 (Operand.tmp 42) 0, type := 0, pos := "ref.go:97", after := #[{ on := 7, ground := Ground.data }], guard := none }) (v := ?_) rfl (by kernel_rfl) (by kernel_rfl) (by kernel_rfl) (fun _ _ _ h => h) (Or.inl ⟨by rfl, ?_⟩) (by assumption) ?_
      rotate_left; · ((intro w hSw; (try dsimp only at hSw); go_simp); try with_reducible rfl)
      try simp only [Act.put, List.setIfInBounds_toArray, List.set_cons_zero, List.set_cons_succ]
      refine wpAnyH_take (i := 9) (oi := { dst := some 44, op := Op.load 60 (Operand.tmp 43), type := 60, pos := "ref.go:97", after := #[{ on := 8, ground := Ground.data }], guard := none }) (v := ?_) rfl (by kernel_rfl) (by kernel_rfl) (by kernel_rfl) (fun _ _ _ h => h) (Or.inl ⟨by rfl, ?_⟩) (by assumption) ?_
      rotate_left; · ((intro w hSw; (try dsimp only at hSw); go_simp); try with_reducible rfl)
      try simp only [Act.put, List.setIfInBounds_toArray, List.set_cons_zero, List.set_cons_succ]
      refine wpAnyH_take (i := 10) (oi := { dst := some 45, op := Op.nilCheck (Operand.tmp 44), type := 0, pos := "ref.go:97", after := #[{ on := 9, ground := Ground.data }], guard := none }) (v := ?_) rfl (by kernel_rfl) (by kernel_rfl) (by kernel_rfl) (fun _ _ _ h => h) (Or.inl ⟨by rfl, ?_⟩) (by assumption) ?_
      rotate_left; · ((intro w hSw; (try dsimp only at hSw); go_simp); try with_reducible rfl)
      try simp only [Act.put, List.setIfInBounds_toArray, List.set_cons_zero, List.set_cons_succ]
      refine wpAnyH_take (i := 11) (oi := { dst := some 46, op := Op.fieldAddr 88 (Operand.tmp 45) 1, type := 0, pos := "ref.go:97", after := #[{ on := 10, ground := Ground.data }], guard := none }) (v := ?_) rfl (by kernel_rfl) (by kernel_rfl) (by kernel_rfl) (fun _ _ _ h => h) (Or.inl ⟨by rfl, ?_⟩) (by assumption) ?_
      rotate_left; · ((intro w hSw; (try dsimp only at hSw); go_simp); try with_reducible rfl)
      try simp only [Act.put, List.setIfInBounds_toArray, List.set_cons_zero, List.set_cons_succ]
      refine wpAnyH_take (i := 12) (oi := { dst := some 47, op := Op.load 9 (Operand.tmp 46), type := 9, pos := "ref.go:97", after := #[{ on := 11, ground := Ground.data }], guard := none }) (v := ?_) rfl (by kernel_rfl) (by kernel_rfl) (by kernel_rfl) (fun _ _ _ h => h) (Or.inl ⟨by rfl, ?_⟩) (by assumption) ?_
      rotate_left; · ((intro w hSw; (try dsimp only at hSw); go_simp); try with_reducible rfl)
      try simp only [Act.put, List.setIfInBounds_toArray, List.set_cons_zero, List.set_cons_succ]
      refine wpAnyH_take (i := 13) (oi := { dst := some 48, op := Op.call { callee := Callee.builtin Builtin.len, args := #[Operand.tmp 47], argTypes := #[9] }, type := 3, pos := "ref.go:97", after := #[{ on := 12, ground := Ground.data }], guard := none }) (v := ?_) rfl (by kernel_rfl) (by kernel_rfl) (by kernel_rfl) (fun _ _ _ h => h) (Or.inl ⟨by rfl, ?_⟩) (by assumption) ?_
      rotate_left; · ((intro w hSw; (try dsimp only at hSw); go_simp); try with_reducible rfl)
      try simp only [Act.put, List.setIfInBounds_toArray, List.set_cons_zero, List.set_cons_succ]
      refine wpAnyH_take (i := 14) (oi := { dst := some 49, op := Op.move (Operand.tmp 8), type := 40, pos := "ref.go:97", after := #[], guard := none }) (v := ?_) rfl (by kernel_rfl) (by kernel_rfl) (by kernel_rfl) (fun _ _ _ h => h) (Or.inl ⟨by rfl, ?_⟩) (by assumption) ?_
      rotate_left; · ((intro w hSw; (try dsimp only at hSw); go_simp); try with_reducible rfl)
      try simp only [Act.put, List.setIfInBounds_toArray, List.set_cons_zero, List.set_cons_succ]
      refine wpAnyH_take (i := 15) (oi := { dst := some 50, op := Op.nilCheck (Operand.tmp 49), type := 0, pos := "ref.go:97", after := #[{ on := 14, ground := Ground.data }], guard := none }) (v := ?_) rfl (by kernel_rfl) (by kernel_rfl) (by kernel_rfl) (fun _ _ _ h => h) (Or.inl ⟨by rfl, ?_⟩) (by assumption) ?_
      rotate_left; · ((intro w hSw; (try dsimp only at hSw); go_simp); try with_reducible rfl)
      try simp only [Act.put, List.setIfInBounds_toArray, List.set_cons_zero, List.set_cons_succ]
      refine wpAnyH_take (i := 16) (oi := { dst := some 51, op := Op.fieldAddr 66 (Operand.tmp 50) 1, type := 0, pos := "ref.go:97", after := #[{ on := 15, ground := Ground.data }], guard := none }) (v := ?_) rfl (by kernel_rfl) (by kernel_rfl) (by kernel_rfl) (fun _ _ _ h => h) (Or.inl ⟨by rfl, ?_⟩) (by assumption) ?_
      rotate_left; · ((intro w hSw; (try dsimp only at hSw); go_simp); try with_reducible rfl)
      try simp only [Act.put, List.setIfInBounds_toArray, List.set_cons_zero, List.set_cons_succ]
      refine wpAnyH_take (i := 17) (oi := { dst := some 52, op := Op.load 60 (Operand.tmp 51), type := 60, pos := "ref.go:97", after := #[{ on := 16, ground := Ground.data }], guard := none }) (v := ?_) rfl (by kernel_rfl) (by kernel_rfl) (by kernel_rfl) (fun _ _ _ h => h) (Or.inl ⟨by rfl, ?_⟩) (by assumption) ?_
      rotate_left; · ((intro w hSw; (try dsimp only at hSw); go_simp); try with_reducible rfl)
      try simp only [Act.put, List.setIfInBounds_toArray, List.set_cons_zero, List.set_cons_succ]
      refine wpAnyH_take (i := 18) (oi := { dst := some 53, op := Op.nilCheck (Operand.tmp 52), type := 0, pos := "ref.go:97", after := #[{ on := 17, ground := Ground.data }], guard := none }) (v := ?_) rfl (by kernel_rfl) (by kernel_rfl) (by kernel_rfl) (fun _ _ _ h => h) (Or.inl ⟨by rfl, ?_⟩) (by assumption) ?_
      rotate_left; · ((intro w hSw; (try dsimp only at hSw); go_simp); try with_reducible rfl)
      try simp only [Act.put, List.setIfInBounds_toArray, List.set_cons_zero, List.set_cons_succ]
      refine wpAnyH_take (i := 19) (oi := { dst := some 54, op := Op.fieldAddr 88 (Operand.tmp 53) 0, type := 0, pos := "ref.go:97", after := #[{ on := 18, ground := Ground.data }], guard := none }) (v := ?_) rfl (by kernel_rfl) (by kernel_rfl) (by kernel_rfl) (fun _ _ _ h => h) (Or.inl ⟨by rfl, ?_⟩) (by assumption) ?_
      rotate_left; · ((intro w hSw; (try dsimp only at hSw); go_simp); try with_reducible rfl)
      try simp only [Act.put, List.setIfInBounds_toArray, List.set_cons_zero, List.set_cons_succ]
      refine wpAnyH_take (i := 20) (oi := { dst := some 55, op := Op.load 3 (Operand.tmp 54), type := 3, pos := "ref.go:97", after := #[{ on := 19, ground := Ground.data }], guard := none }) (v := ?_) rfl (by kernel_rfl) (by kernel_rfl) (by kernel_rfl) (fun _ _ _ h => h) (Or.inl ⟨by rfl, ?_⟩) (by assumption) ?_
      rotate_left; · ((intro w hSw; (try dsimp only at hSw); go_simp); try with_reducible rfl)
      try simp only [Act.put, List.setIfInBounds_toArray, List.set_cons_zero, List.set_cons_succ]
      refine wpAnyH_take (i := 21) (oi := { dst := some 56, op := Op.move (Operand.tmp 8), type := 40, pos := "ref.go:97", after := #[], guard := none }) (v := ?_) rfl (by kernel_rfl) (by kernel_rfl) (by kernel_rfl) (fun _ _ _ h => h) (Or.inl ⟨by rfl, ?_⟩) (by assumption) ?_
      rotate_left; · ((intro w hSw; (try dsimp only at hSw); go_simp); try with_reducible rfl)
      try simp only [Act.put, List.setIfInBounds_toArray, List.set_cons_zero, List.set_cons_succ]
      refine wpAnyH_take (i := 22) (oi := { dst := some 57, op := Op.nilCheck (Operand.tmp 56), type := 0, pos := "ref.go:97", after := #[{ on := 21, ground := Ground.data }], guard := none }) (v := ?_) rfl (by kernel_rfl) (by kernel_rfl) (by kernel_rfl) (fun _ _ _ h => h) (Or.inl ⟨by rfl, ?_⟩) (by assumption) ?_
      rotate_left; · ((intro w hSw; (try dsimp only at hSw); go_simp); try with_reducible rfl)
      try simp only [Act.put, List.setIfInBounds_toArray, List.set_cons_zero, List.set_cons_succ]
      refine wpAnyH_take (i := 23) (oi := { dst := some 58, op := Op.fieldAddr 66 (Operand.tmp 57) 1, type := 0, pos := "ref.go:97", after := #[{ on := 22, ground := Ground.data }], guard := none }) (v := ?_) rfl (by kernel_rfl) (by kernel_rfl) (by kernel_rfl) (fun _ _ _ h => h) (Or.inl ⟨by rfl, ?_⟩) (by assumption) ?_
      rotate_left; · ((intro w hSw; (try dsimp only at hSw); go_simp); try with_reducible rfl)
      try simp only [Act.put, List.setIfInBounds_toArray, List.set_cons_zero, List.set_cons_succ]
      refine wpAnyH_take (i := 24) (oi := { dst := some 59, op := Op.load 60 (Operand.tmp 58), type := 60, pos := "ref.go:97", after := #[{ on := 23, ground := Ground.data }], guard := none }) (v := ?_) rfl (by kernel_rfl) (by kernel_rfl) (by kernel_rfl) (fun _ _ _ h => h) (Or.inl ⟨by rfl, ?_⟩) (by assumption) ?_
      rotate_left; · ((intro w hSw; (try dsimp only at hSw); go_simp); try with_reducible rfl)
      try simp only [Act.put, List.setIfInBounds_toArray, List.set_cons_zero, List.set_cons_succ]
      refine wpAnyH_take (i := 25) (oi := { dst := some 60, op := Op.nilCheck (Operand.tmp 59), type := 0, pos := "ref.go:97", after := #[{ on := 24, ground := Ground.data }], guard := none }) (v := ?_) rfl (by kernel_rfl) (by kernel_rfl) (by kernel_rfl) (fun _ _ _ h => h) (Or.inl ⟨by rfl, ?_⟩) (by assumption) ?_
      rotate_left; · ((intro w hSw; (try dsimp only at hSw); go_simp); try with_reducible rfl)
      try simp only [Act.put, List.setIfInBounds_toArray, List.set_cons_zero, List.set_cons_succ]
      refine wpAnyH_take (i := 26) (oi := { dst := some 61, op := Op.fieldAddr 88 (Operand.tmp 60) 1, type := 0, pos := "ref.go:97", after := #[{ on := 25, ground := Ground.data }], guard := none }) (v := ?_) rfl (by kernel_rfl) (by kernel_rfl) (by kernel_rfl) (fun _ _ _ h => h) (Or.inl ⟨by rfl, ?_⟩) (by assumption) ?_
      rotate_left; · ((intro w hSw; (try dsimp only at hSw); go_simp); try with_reducible rfl)
      try simp only [Act.put, List.setIfInBounds_toArray, List.set_cons_zero, List.set_cons_succ]
      refine wpAnyH_take (i := 27) (oi := { dst := some 62, op := Op.load 9 (Operand.tmp 61), type := 9, pos := "ref.go:97", after := #[{ on := 26, ground := Ground.data }], guard := none }) (v := ?_) rfl (by kernel_rfl) (by kernel_rfl) (by kernel_rfl) (fun _ _ _ h => h) (Or.inl ⟨by rfl, ?_⟩) (by assumption) ?_
      rotate_left; · ((intro w hSw; (try dsimp only at hSw); go_simp); try with_reducible rfl)
      try simp only [Act.put, List.setIfInBounds_toArray, List.set_cons_zero, List.set_cons_succ]
      refine wpAnyH_take (i := 28) (oi := { dst := some 63, op := Op.call { callee := Callee.builtin Builtin.len, args := #[Operand.tmp 62], argTypes := #[9] }, type := 3, pos := "ref.go:97", after := #[{ on := 27, ground := Ground.data }], guard := none }) (v := ?_) rfl (by kernel_rfl) (by kernel_rfl) (by kernel_rfl) (fun _ _ _ h => h) (Or.inl ⟨by rfl, ?_⟩) (by assumption) ?_
      rotate_left; · ((intro w hSw; (try dsimp only at hSw); go_simp); try with_reducible rfl)
      try simp only [Act.put, List.setIfInBounds_toArray, List.set_cons_zero, List.set_cons_succ]
      refine wpAnyH_take (i := 29) (oi := { dst := some 64, op := Op.binOp BinOp.sub 3 (Operand.tmp 55) (Operand.tmp 63) 3, type := 3, pos := "ref.go:97", after := #[{ on := 20, ground := Ground.data }, { on := 28, ground := Ground.data }], guard := none }) (v := ?_) rfl (by kernel_rfl) (by kernel_rfl) (by kernel_rfl) (fun _ _ _ h => h) (Or.inl ⟨by rfl, ?_⟩) (by assumption) ?_
      rotate_left; · ((intro w hSw; (try dsimp only at hSw); go_simp); try with_reducible rfl)
      try simp only [Act.put, List.setIfInBounds_toArray, List.set_cons_zero, List.set_cons_succ]
      refine wpAnyH_ready (rs := [5]) (by kernel_rfl) (by simp) ?_
      refine AllReadyH.cons rfl (fun K hK => ?_) ?_
      · go_simp
        (refine (HL.out _).mono ?_; rintro e w1 ⟨rfl, hk⟩; have hcs := hk.cells)
        refine hK.out _ _ ?_ (fun hHeld => ?_)
        · (try dsimp only); (first | exact ⟨q0, q1, q2, q3, i1, o0, o1⟩ | exact ⟨hcs _ _ q0, hcs _ _ q1, hcs _ _ q2, hcs _ _ q3, hcs _ _ i1, hcs _ _ o0, hcs _ _ o1⟩)
        clear hK K
        try simp only [Act.put, List.setIfInBounds_toArray, List.set_cons_zero, List.set_cons_succ]
        refine wpAnyH_take (i := 30) (oi := { dst := some 65, op := Op.call { callee := Callee.builtin Builtin.min, args := #[Operand.tmp 35, Operand.tmp 40, Operand.tmp 48, Operand.tmp 64], argTypes := #[3, 3, 3, 3] }, type := 3, pos := "ref.go:97", after := #[{ on := 0, ground := Ground.data }, { on := 5, ground := Ground.data }, { on := 13, ground := Ground.data }, { on := 29, ground := Ground.data }], guard := none }) (v := ?_) rfl (by kernel_rfl) (by kernel_rfl) (by kernel_rfl) (fun _ _ _ h => h) (Or.inl ⟨by rfl, ?_⟩) (by assumption) ?_
        rotate_left; · ((intro w hSw; (try dsimp only at hSw); go_simp); try with_reducible rfl)
        try simp only [Act.put, List.setIfInBounds_toArray, List.set_cons_zero, List.set_cons_succ]
        refine wpAnyH_take (i := 31) (oi := { dst := some 9, op := Op.assign (Operand.tmp 65), type := 3, pos := "ref.go:97", after := #[{ on := 30, ground := Ground.data }, { on := 5, ground := Ground.chain }, { on := 0, ground := Ground.phase }, { on := 1, ground := Ground.phase }, { on := 2, ground := Ground.phase }, { on := 3, ground := Ground.phase }, { on := 4, ground := Ground.phase }, { on := 5, ground := Ground.phase }, { on := 6, ground := Ground.phase }, { on := 7, ground := Ground.phase }, { on := 8, ground := Ground.phase }, { on := 9, ground := Ground.phase }, { on := 10, ground := Ground.phase }, { on := 11, ground := Ground.phase }, { on := 12, ground := Ground.phase }, { on := 13, ground := Ground.phase }, { on := 14, ground := Ground.phase }, { on := 15, ground := Ground.phase }, { on := 16, ground := Ground.phase }, { on := 17, ground := Ground.phase }, { on := 18, ground := Ground.phase }, { on := 19, ground := Ground.phase }, { on := 20, ground := Ground.phase }, { on := 21, ground := Ground.phase }, { on := 22, ground := Ground.phase }, { on := 23, ground := Ground.phase }, { on := 24, ground := Ground.phase }, { on := 25, ground := Ground.phase }, { on := 26, ground := Ground.phase }, { on := 27, ground := Ground.phase }, { on := 28, ground := Ground.phase }, { on := 29, ground := Ground.phase }, { on := 30, ground := Ground.phase }], guard := none }) (v := ?_) rfl (by kernel_rfl) (by kernel_rfl) (by kernel_rfl) (fun _ _ _ h => h) (Or.inl ⟨by rfl, ?_⟩) (by assumption) ?_
        rotate_left; · ((intro w hSw; (try dsimp only at hSw); go_simp); try with_reducible rfl)
        try simp only [Act.put, List.setIfInBounds_toArray, List.set_cons_zero, List.set_cons_succ]
        refine wpAnyH_done (by kernel_rfl) ?_ _
        (go_wp2_with (fail); go_meet; exact ⟨rfl, ((Keeps.refl [] w).drew).trans hk⟩)
      exact AllReadyH.nil
    case rest =>
      obtain ⟨rfl, hK⟩ := hcut
      have hm0 := HM0.out.keep hK
      clear k0 k1 c0 q0 q1 q2 q3 i1 o0 o1 hmin hwr HL
      have q0 := hm0.head.cell 0
      have q1 := hm0.head.cell 1
      simp only [List.getElem?_toArray, List.getElem?_cons_zero, List.getElem?_cons_succ] at q0 q1
      have HPW := Lib.hid (HP.out wc.drew (hm0.keep (Keeps.refl [] wc).drew))
      clear hK hm0
      go_wp2_with (fail)
      go_region_held3 (fun w' => w'.cell? ⟨(T.wl 0).b, 0, none⟩ = some (.pointer (some ⟨(T.wl 0).i, 0, none⟩)) ∧ w'.cell? ⟨(T.wl 0).b, 1, none⟩ = some (.pointer (some ⟨(T.wl 0).o, 0, none⟩))) (go_keep) (first | (go_at_call 57; refine HPW.out.mono ?_; rintro e w1 ⟨rfl, hm1, d0, d1⟩) | (go_at_call 55; refine (HQ.out _ hm1).mono ?_; rintro e w2 ⟨rfl, hm2, d2, d3⟩))
      have c2 := hm2.head.cell 2
      have c3 := hm2.head.cell 3
      simp only [List.getElem?_toArray, List.getElem?_cons_zero, List.getElem?_cons_succ] at c2 c3
      have HM := Lib.hid hm2
      clear hm1 hm2 d0 d1 d2 d3 q0 q1 HPW
      go_wp2_with (fail)
      refine (HSD.out _).mono ?_
      rintro e w3 ⟨rfl, hk⟩
      have hm3 := (HM.out.keep hk).keep ((Keeps.refl [] w3).alloc (.cells #[.int .i64 (t.at_ 0).g, .int .i64 sp] 64))
      clear c2 c3
      have f2 := hm3.head.frozen 2
      have f3 := hm3.head.frozen 3
      have f5 := hm3.head.frozen 5
      have c2 := hm3.head.cell 2
      have c3 := hm3.head.cell 3
      have c5 := hm3.head.cell 5
      simp only [List.getElem?_toArray, List.getElem?_cons_zero, List.getElem?_cons_succ] at c2 c3 c5
      have HM3 := Lib.hid hm3
      clear hm3 hk
      go_wp2
      go_ret2
      obtain ⟨z1, z2⟩ := HM3.out.moved HKK.out HSP.out H.out
      exact ⟨rfl, z1, z2⟩
  · go_enter Tryz.func26, Tryz.ntmps26
    go_wp2_with (fail)
    refine (HS.out _).mono ?_
    rintro e w1 ⟨rfl, rfl⟩
    go_wp2_with (fail)
    go_cut [9] (fun m wx => m = .int .i64 k ∧ Keeps [] w wx)
    case first =>
      refine wp_region_held_drew (S := (fun w' : World => w'.cell? ⟨(T.wl 1).b, 0, none⟩ = some (.pointer (some ⟨(T.wl 1).i, 0, none⟩)) ∧ w'.cell? ⟨(T.wl 1).b, 1, none⟩ = some (.pointer (some ⟨(T.wl 1).o, 0, none⟩)) ∧ w'.cell? ⟨(T.wl 1).b, 2, none⟩ = some (.int .i64 (t.at_ 1).g) ∧ w'.cell? ⟨(T.wl 1).b, 3, none⟩ = some (.int .i64 (t.at_ 1).s) ∧ w'.cell? ⟨(T.wl 1).i, 1, none⟩ = some (.string si) ∧ w'.cell? ⟨(T.wl 1).o, 0, none⟩ = some (.int .i64 cap) ∧ w'.cell? ⟨(T.wl 1).o, 1, none⟩ = some (.string so))) (by kernel_rfl) ?_ (fun hHeld => ?_)
      · (try dsimp only); (first | exact ⟨q0, q1, q2, q3, i1, o0, o1⟩ | exact ⟨hcs _ _ q0, hcs _ _ q1, hcs _ _ q2, hcs _ _ q3, hcs _ _ i1, hcs _ _ o0, hcs _ _ o1⟩)
      refine wpAnyH_take (i := 0) (oi := { dst := some 35, op := Op.move (Operand.tmp 2), type := 3, pos := "ref.go:97", after := #[], guard := none }) (v := ?_) rfl (by kernel_rfl) (by kernel_rfl) (by kernel_rfl) (fun _ _ _ h => h) (Or.inl ⟨by rfl, ?_⟩) (by assumption) ?_
      rotate_left; · ((intro w hSw; (try dsimp only at hSw); go_simp); try with_reducible rfl)
      try simp only [Act.put, List.setIfInBounds_toArray, List.set_cons_zero, List.set_cons_succ]
      refine wpAnyH_take (i := 1) (oi := { dst := some 36, op := Op.move (Operand.tmp 8), type := 40, pos := "ref.go:97", after := #[], guard := none }) (v := ?_) rfl (by kernel_rfl) (by kernel_rfl) (by kernel_rfl) (fun _ _ _ h => h) (Or.inl ⟨by rfl, ?_⟩) (by assumption) ?_
      rotate_left; · ((intro w hSw; (try dsimp only at hSw); go_simp); try with_reducible rfl)
      try simp only [Act.put, List.setIfInBounds_toArray, List.set_cons_zero, List.set_cons_succ]
      refine wpAnyH_take (i := 2) (oi := { dst := some 37, op := Op.nilCheck (Operand.tmp 36), type := 0, pos := "ref.go:97", after := #[{ on := 1, ground := Ground.data }], guard := none }) (v := ?_) rfl (by kernel_rfl) (by kernel_rfl) (by kernel_rfl) (fun _ _ _ h => h) (Or.inl ⟨by rfl, ?_⟩) (by assumption) ?_
      rotate_left; · ((intro w hSw; (try dsimp only at hSw); go_simp); try with_reducible rfl)
      try simp only [Act.put, List.setIfInBounds_toArray, List.set_cons_zero, List.set_cons_succ]
      refine wpAnyH_take (i := 3) (oi := { dst := some 38, op := Op.fieldAddr 66 (Operand.tmp 37) 2, type := 0, pos := "ref.go:97", after := #[{ on := 2, ground := Ground.data }], guard := none }) (v := ?_) rfl (by kernel_rfl) (by kernel_rfl) (by kernel_rfl) (fun _ _ _ h => h) (Or.inl ⟨by rfl, ?_⟩) (by assumption) ?_
      rotate_left; · ((intro w hSw; (try dsimp only at hSw); go_simp); try with_reducible rfl)
      try simp only [Act.put, List.setIfInBounds_toArray, List.set_cons_zero, List.set_cons_succ]
      refine wpAnyH_take (i := 4) (oi := { dst := some 39, op := Op.load 64 (Operand.tmp 38), type := 64, pos := "ref.go:97", after := #[{ on := 3, ground := Ground.data }], guard := none }) (v := ?_) rfl (by kernel_rfl) (by kernel_rfl) (by kernel_rfl) (fun _ _ _ h => h) (Or.inl ⟨by rfl, ?_⟩) (by assumption) ?_
      rotate_left; · ((intro w hSw; (try dsimp only at hSw); go_simp); try with_reducible rfl)
      try simp only [Act.put, List.setIfInBounds_toArray, List.set_cons_zero, List.set_cons_succ]
      refine wpAnyH_take (i := 6) (oi := { dst := some 41, op := Op.move (Operand.tmp 8), type := 40, pos := "ref.go:97", after := #[], guard := none }) (v := ?_) rfl (by kernel_rfl) (by kernel_rfl) (by kernel_rfl) (fun _ _ _ h => h) (Or.inl ⟨by rfl, ?_⟩) (by assumption) ?_
      rotate_left; · ((intro w hSw; (try dsimp only at hSw); go_simp); try with_reducible rfl)
      try simp only [Act.put, List.setIfInBounds_toArray, List.set_cons_zero, List.set_cons_succ]
      refine wpAnyH_take (i := 7) (oi := { dst := some 42, op := Op.nilCheck (Operand.tmp 41), type := 0, pos := "ref.go:97", after := #[{ on := 6, ground := Ground.data }], guard := none }) (v := ?_) rfl (by kernel_rfl) (by kernel_rfl) (by kernel_rfl) (fun _ _ _ h => h) (Or.inl ⟨by rfl, ?_⟩) (by assumption) ?_
      rotate_left; · ((intro w hSw; (try dsimp only at hSw); go_simp); try with_reducible rfl)
      try simp only [Act.put, List.setIfInBounds_toArray, List.set_cons_zero, List.set_cons_succ]
      refine wpAnyH_take (i := 8) (oi := { dst := some 43, op := Op.fieldAddr 66 (Operand.tmp 42) 0, type := 0, pos := "ref.go:97", after := #[{ on := 7, ground := Ground.data }], guard := none }) (v := ?_) rfl (by kernel_rfl) (by kernel_rfl) (by kernel_rfl) (fun _ _ _ h => h) (Or.inl ⟨by rfl, ?_⟩) (by assumption) ?_
      rotate_left; · ((intro w hSw; (try dsimp only at hSw); go_simp); try with_reducible rfl)
      try simp only [Act.put, List.setIfInBounds_toArray, List.set_cons_zero, List.set_cons_succ]
      refine wpAnyH_take (i := 9) (oi := { dst := some 44, op := Op.load 60 (Operand.tmp 43), type := 60, pos := "ref.go:97", after := #[{ on := 8, ground := Ground.data }], guard := none }) (v := ?_) rfl (by kernel_rfl) (by kernel_rfl) (by kernel_rfl) (fun _ _ _ h => h) (Or.inl ⟨by rfl, ?_⟩) (by assumption) ?_
      rotate_left; · ((intro w hSw; (try dsimp only at hSw); go_simp); try with_reducible rfl)
      try simp only [Act.put, List.setIfInBounds_toArray, List.set_cons_zero, List.set_cons_succ]
      refine wpAnyH_take (i := 10) (oi := { dst := some 45, op := Op.nilCheck (Operand.tmp 44), type := 0, pos := "ref.go:97", after := #[{ on := 9, ground := Ground.data }], guard := none }) (v := ?_) rfl (by kernel_rfl) (by kernel_rfl) (by kernel_rfl) (fun _ _ _ h => h) (Or.inl ⟨by rfl, ?_⟩) (by assumption) ?_
      rotate_left; · ((intro w hSw; (try dsimp only at hSw); go_simp); try with_reducible rfl)
      try simp only [Act.put, List.setIfInBounds_toArray, List.set_cons_zero, List.set_cons_succ]
      refine wpAnyH_take (i := 11) (oi := { dst := some 46, op := Op.fieldAddr 88 (Operand.tmp 45) 1, type := 0, pos := "ref.go:97", after := #[{ on := 10, ground := Ground.data }], guard := none }) (v := ?_) rfl (by kernel_rfl) (by kernel_rfl) (by kernel_rfl) (fun _ _ _ h => h) (Or.inl ⟨by rfl, ?_⟩) (by assumption) ?_
      rotate_left; · ((intro w hSw; (try dsimp only at hSw); go_simp); try with_reducible rfl)
      try simp only [Act.put, List.setIfInBounds_toArray, List.set_cons_zero, List.set_cons_succ]
      refine wpAnyH_take (i := 12) (oi := { dst := some 47, op := Op.load 9 (Operand.tmp 46), type := 9, pos := "ref.go:97", after := #[{ on := 11, ground := Ground.data }], guard := none }) (v := ?_) rfl (by kernel_rfl) (by kernel_rfl) (by kernel_rfl) (fun _ _ _ h => h) (Or.inl ⟨by rfl, ?_⟩) (by assumption) ?_
      rotate_left; · ((intro w hSw; (try dsimp only at hSw); go_simp); try with_reducible rfl)
      try simp only [Act.put, List.setIfInBounds_toArray, List.set_cons_zero, List.set_cons_succ]
      refine wpAnyH_take (i := 13) (oi := { dst := some 48, op := Op.call { callee := Callee.builtin Builtin.len, args := #[Operand.tmp 47], argTypes := #[9] }, type := 3, pos := "ref.go:97", after := #[{ on := 12, ground := Ground.data }], guard := none }) (v := ?_) rfl (by kernel_rfl) (by kernel_rfl) (by kernel_rfl) (fun _ _ _ h => h) (Or.inl ⟨by rfl, ?_⟩) (by assumption) ?_
      rotate_left; · ((intro w hSw; (try dsimp only at hSw); go_simp); try with_reducible rfl)
      try simp only [Act.put, List.setIfInBounds_toArray, List.set_cons_zero, List.set_cons_succ]
      refine wpAnyH_take (i := 14) (oi := { dst := some 49, op := Op.move (Operand.tmp 8), type := 40, pos := "ref.go:97", after := #[], guard := none }) (v := ?_) rfl (by kernel_rfl) (by kernel_rfl) (by kernel_rfl) (fun _ _ _ h => h) (Or.inl ⟨by rfl, ?_⟩) (by assumption) ?_
      rotate_left; · ((intro w hSw; (try dsimp only at hSw); go_simp); try with_reducible rfl)
      try simp only [Act.put, List.setIfInBounds_toArray, List.set_cons_zero, List.set_cons_succ]
      refine wpAnyH_take (i := 15) (oi := { dst := some 50, op := Op.nilCheck (Operand.tmp 49), type := 0, pos := "ref.go:97", after := #[{ on := 14, ground := Ground.data }], guard := none }) (v := ?_) rfl (by kernel_rfl) (by kernel_rfl) (by kernel_rfl) (fun _ _ _ h => h) (Or.inl ⟨by rfl, ?_⟩) (by assumption) ?_
      rotate_left; · ((intro w hSw; (try dsimp only at hSw); go_simp); try with_reducible rfl)
      try simp only [Act.put, List.setIfInBounds_toArray, List.set_cons_zero, List.set_cons_succ]
      refine wpAnyH_take (i := 16) (oi := { dst := some 51, op := Op.fieldAddr 66 (Operand.tmp 50) 1, type := 0, pos := "ref.go:97", after := #[{ on := 15, ground := Ground.data }], guard := none }) (v := ?_) rfl (by kernel_rfl) (by kernel_rfl) (by kernel_rfl) (fun _ _ _ h => h) (Or.inl ⟨by rfl, ?_⟩) (by assumption) ?_
      rotate_left; · ((intro w hSw; (try dsimp only at hSw); go_simp); try with_reducible rfl)
      try simp only [Act.put, List.setIfInBounds_toArray, List.set_cons_zero, List.set_cons_succ]
      refine wpAnyH_take (i := 17) (oi := { dst := some 52, op := Op.load 60 (Operand.tmp 51), type := 60, pos := "ref.go:97", after := #[{ on := 16, ground := Ground.data }], guard := none }) (v := ?_) rfl (by kernel_rfl) (by kernel_rfl) (by kernel_rfl) (fun _ _ _ h => h) (Or.inl ⟨by rfl, ?_⟩) (by assumption) ?_
      rotate_left; · ((intro w hSw; (try dsimp only at hSw); go_simp); try with_reducible rfl)
      try simp only [Act.put, List.setIfInBounds_toArray, List.set_cons_zero, List.set_cons_succ]
      refine wpAnyH_take (i := 18) (oi := { dst := some 53, op := Op.nilCheck (Operand.tmp 52), type := 0, pos := "ref.go:97", after := #[{ on := 17, ground := Ground.data }], guard := none }) (v := ?_) rfl (by kernel_rfl) (by kernel_rfl) (by kernel_rfl) (fun _ _ _ h => h) (Or.inl ⟨by rfl, ?_⟩) (by assumption) ?_
      rotate_left; · ((intro w hSw; (try dsimp only at hSw); go_simp); try with_reducible rfl)
      try simp only [Act.put, List.setIfInBounds_toArray, List.set_cons_zero, List.set_cons_succ]
      refine wpAnyH_take (i := 19) (oi := { dst := some 54, op := Op.fieldAddr 88 (Operand.tmp 53) 0, type := 0, pos := "ref.go:97", after := #[{ on := 18, ground := Ground.data }], guard := none }) (v := ?_) rfl (by kernel_rfl) (by kernel_rfl) (by kernel_rfl) (fun _ _ _ h => h) (Or.inl ⟨by rfl, ?_⟩) (by assumption) ?_
      rotate_left; · ((intro w hSw; (try dsimp only at hSw); go_simp); try with_reducible rfl)
      try simp only [Act.put, List.setIfInBounds_toArray, List.set_cons_zero, List.set_cons_succ]
      refine wpAnyH_take (i := 20) (oi := { dst := some 55, op := Op.load 3 (Operand.tmp 54), type := 3, pos := "ref.go:97", after := #[{ on := 19, ground := Ground.data }], guard := none }) (v := ?_) rfl (by kernel_rfl) (by kernel_rfl) (by kernel_rfl) (fun _ _ _ h => h) (Or.inl ⟨by rfl, ?_⟩) (by assumption) ?_
      rotate_left; · ((intro w hSw; (try dsimp only at hSw); go_simp); try with_reducible rfl)
      try simp only [Act.put, List.setIfInBounds_toArray, List.set_cons_zero, List.set_cons_succ]
      refine wpAnyH_take (i := 21) (oi := { dst := some 56, op := Op.move (Operand.tmp 8), type := 40, pos := "ref.go:97", after := #[], guard := none }) (v := ?_) rfl (by kernel_rfl) (by kernel_rfl) (by kernel_rfl) (fun _ _ _ h => h) (Or.inl ⟨by rfl, ?_⟩) (by assumption) ?_
      rotate_left; · ((intro w hSw; (try dsimp only at hSw); go_simp); try with_reducible rfl)
      try simp only [Act.put, List.setIfInBounds_toArray, List.set_cons_zero, List.set_cons_succ]
      refine wpAnyH_take (i := 22) (oi := { dst := some 57, op := Op.nilCheck (Operand.tmp 56), type := 0, pos := "ref.go:97", after := #[{ on := 21, ground := Ground.data }], guard := none }) (v := ?_) rfl (by kernel_rfl) (by kernel_rfl) (by kernel_rfl) (fun _ _ _ h => h) (Or.inl ⟨by rfl, ?_⟩) (by assumption) ?_
      rotate_left; · ((intro w hSw; (try dsimp only at hSw); go_simp); try with_reducible rfl)
      try simp only [Act.put, List.setIfInBounds_toArray, List.set_cons_zero, List.set_cons_succ]
      refine wpAnyH_take (i := 23) (oi := { dst := some 58, op := Op.fieldAddr 66 (Operand.tmp 57) 1, type := 0, pos := "ref.go:97", after := #[{ on := 22, ground := Ground.data }], guard := none }) (v := ?_) rfl (by kernel_rfl) (by kernel_rfl) (by kernel_rfl) (fun _ _ _ h => h) (Or.inl ⟨by rfl, ?_⟩) (by assumption) ?_
      rotate_left; · ((intro w hSw; (try dsimp only at hSw); go_simp); try with_reducible rfl)
      try simp only [Act.put, List.setIfInBounds_toArray, List.set_cons_zero, List.set_cons_succ]
      refine wpAnyH_take (i := 24) (oi := { dst := some 59, op := Op.load 60 (Operand.tmp 58), type := 60, pos := "ref.go:97", after := #[{ on := 23, ground := Ground.data }], guard := none }) (v := ?_) rfl (by kernel_rfl) (by kernel_rfl) (by kernel_rfl) (fun _ _ _ h => h) (Or.inl ⟨by rfl, ?_⟩) (by assumption) ?_
      rotate_left; · ((intro w hSw; (try dsimp only at hSw); go_simp); try with_reducible rfl)
      try simp only [Act.put, List.setIfInBounds_toArray, List.set_cons_zero, List.set_cons_succ]
      refine wpAnyH_take (i := 25) (oi := { dst := some 60, op := Op.nilCheck (Operand.tmp 59), type := 0, pos := "ref.go:97", after := #[{ on := 24, ground := Ground.data }], guard := none }) (v := ?_) rfl (by kernel_rfl) (by kernel_rfl) (by kernel_rfl) (fun _ _ _ h => h) (Or.inl ⟨by rfl, ?_⟩) (by assumption) ?_
      rotate_left; · ((intro w hSw; (try dsimp only at hSw); go_simp); try with_reducible rfl)
      try simp only [Act.put, List.setIfInBounds_toArray, List.set_cons_zero, List.set_cons_succ]
      refine wpAnyH_take (i := 26) (oi := { dst := some 61, op := Op.fieldAddr 88 (Operand.tmp 60) 1, type := 0, pos := "ref.go:97", after := #[{ on := 25, ground := Ground.data }], guard := none }) (v := ?_) rfl (by kernel_rfl) (by kernel_rfl) (by kernel_rfl) (fun _ _ _ h => h) (Or.inl ⟨by rfl, ?_⟩) (by assumption) ?_
      rotate_left; · ((intro w hSw; (try dsimp only at hSw); go_simp); try with_reducible rfl)
      try simp only [Act.put, List.setIfInBounds_toArray, List.set_cons_zero, List.set_cons_succ]
      refine wpAnyH_take (i := 27) (oi := { dst := some 62, op := Op.load 9 (Operand.tmp 61), type := 9, pos := "ref.go:97", after := #[{ on := 26, ground := Ground.data }], guard := none }) (v := ?_) rfl (by kernel_rfl) (by kernel_rfl) (by kernel_rfl) (fun _ _ _ h => h) (Or.inl ⟨by rfl, ?_⟩) (by assumption) ?_
      rotate_left; · ((intro w hSw; (try dsimp only at hSw); go_simp); try with_reducible rfl)
      try simp only [Act.put, List.setIfInBounds_toArray, List.set_cons_zero, List.set_cons_succ]
      refine wpAnyH_take (i := 28) (oi := { dst := some 63, op := Op.call { callee := Callee.builtin Builtin.len, args := #[Operand.tmp 62], argTypes := #[9] }, type := 3, pos := "ref.go:97", after := #[{ on := 27, ground := Ground.data }], guard := none }) (v := ?_) rfl (by kernel_rfl) (by kernel_rfl) (by kernel_rfl) (fun _ _ _ h => h) (Or.inl ⟨by rfl, ?_⟩) (by assumption) ?_
      rotate_left; · ((intro w hSw; (try dsimp only at hSw); go_simp); try with_reducible rfl)
      try simp only [Act.put, List.setIfInBounds_toArray, List.set_cons_zero, List.set_cons_succ]
      refine wpAnyH_take (i := 29) (oi := { dst := some 64, op := Op.binOp BinOp.sub 3 (Operand.tmp 55) (Operand.tmp 63) 3, type := 3, pos := "ref.go:97", after := #[{ on := 20, ground := Ground.data }, { on := 28, ground := Ground.data }], guard := none }) (v := ?_) rfl (by kernel_rfl) (by kernel_rfl) (by kernel_rfl) (fun _ _ _ h => h) (Or.inl ⟨by rfl, ?_⟩) (by assumption) ?_
      rotate_left; · ((intro w hSw; (try dsimp only at hSw); go_simp); try with_reducible rfl)
      try simp only [Act.put, List.setIfInBounds_toArray, List.set_cons_zero, List.set_cons_succ]
      refine wpAnyH_ready (rs := [5]) (by kernel_rfl) (by simp) ?_
      refine AllReadyH.cons rfl (fun K hK => ?_) ?_
      · go_simp
        (refine (HL.out _).mono ?_; rintro e w1 ⟨rfl, hk⟩; have hcs := hk.cells)
        refine hK.out _ _ ?_ (fun hHeld => ?_)
        · (try dsimp only); (first | exact ⟨q0, q1, q2, q3, i1, o0, o1⟩ | exact ⟨hcs _ _ q0, hcs _ _ q1, hcs _ _ q2, hcs _ _ q3, hcs _ _ i1, hcs _ _ o0, hcs _ _ o1⟩)
        clear hK K
        try simp only [Act.put, List.setIfInBounds_toArray, List.set_cons_zero, List.set_cons_succ]
        refine wpAnyH_take (i := 30) (oi := { dst := some 65, op := Op.call { callee := Callee.builtin Builtin.min, args := #[Operand.tmp 35, Operand.tmp 40, Operand.tmp 48, Operand.tmp 64], argTypes := #[3, 3, 3, 3] }, type := 3, pos := "ref.go:97", after := #[{ on := 0, ground := Ground.data }, { on := 5, ground := Ground.data }, { on := 13, ground := Ground.data }, { on := 29, ground := Ground.data }], guard := none }) (v := ?_) rfl (by kernel_rfl) (by kernel_rfl) (by kernel_rfl) (fun _ _ _ h => h) (Or.inl ⟨by rfl, ?_⟩) (by assumption) ?_
        rotate_left; · ((intro w hSw; (try dsimp only at hSw); go_simp); try with_reducible rfl)
        try simp only [Act.put, List.setIfInBounds_toArray, List.set_cons_zero, List.set_cons_succ]
        refine wpAnyH_take (i := 31) (oi := { dst := some 9, op := Op.assign (Operand.tmp 65), type := 3, pos := "ref.go:97", after := #[{ on := 30, ground := Ground.data }, { on := 5, ground := Ground.chain }, { on := 0, ground := Ground.phase }, { on := 1, ground := Ground.phase }, { on := 2, ground := Ground.phase }, { on := 3, ground := Ground.phase }, { on := 4, ground := Ground.phase }, { on := 5, ground := Ground.phase }, { on := 6, ground := Ground.phase }, { on := 7, ground := Ground.phase }, { on := 8, ground := Ground.phase }, { on := 9, ground := Ground.phase }, { on := 10, ground := Ground.phase }, { on := 11, ground := Ground.phase }, { on := 12, ground := Ground.phase }, { on := 13, ground := Ground.phase }, { on := 14, ground := Ground.phase }, { on := 15, ground := Ground.phase }, { on := 16, ground := Ground.phase }, { on := 17, ground := Ground.phase }, { on := 18, ground := Ground.phase }, { on := 19, ground := Ground.phase }, { on := 20, ground := Ground.phase }, { on := 21, ground := Ground.phase }, { on := 22, ground := Ground.phase }, { on := 23, ground := Ground.phase }, { on := 24, ground := Ground.phase }, { on := 25, ground := Ground.phase }, { on := 26, ground := Ground.phase }, { on := 27, ground := Ground.phase }, { on := 28, ground := Ground.phase }, { on := 29, ground := Ground.phase }, { on := 30, ground := Ground.phase }], guard := none }) (v := ?_) rfl (by kernel_rfl) (by kernel_rfl) (by kernel_rfl) (fun _ _ _ h => h) (Or.inl ⟨by rfl, ?_⟩) (by assumption) ?_
        rotate_left; · ((intro w hSw; (try dsimp only at hSw); go_simp); try with_reducible rfl)
        try simp only [Act.put, List.setIfInBounds_toArray, List.set_cons_zero, List.set_cons_succ]
        refine wpAnyH_done (by kernel_rfl) ?_ _
        (go_wp2_with (fail); go_meet; exact ⟨rfl, ((Keeps.refl [] w).drew).trans hk⟩)
      exact AllReadyH.nil
    case rest =>
      obtain ⟨rfl, hK⟩ := hcut
      have hm0 := HM0.out.keep hK
      clear k0 k1 c0 q0 q1 q2 q3 i1 o0 o1 hmin hwr HL
      have q0 := hm0.head.cell 0
      have q1 := hm0.head.cell 1
      simp only [List.getElem?_toArray, List.getElem?_cons_zero, List.getElem?_cons_succ] at q0 q1
      have HPW := Lib.hid (HP.out wc.drew (hm0.keep (Keeps.refl [] wc).drew))
      clear hK hm0
      go_wp2_with (fail)
      go_region_held3 (fun w' => w'.cell? ⟨(T.wl 1).b, 0, none⟩ = some (.pointer (some ⟨(T.wl 1).i, 0, none⟩)) ∧ w'.cell? ⟨(T.wl 1).b, 1, none⟩ = some (.pointer (some ⟨(T.wl 1).o, 0, none⟩))) (go_keep) (first | (go_at_call 57; refine HPW.out.mono ?_; rintro e w1 ⟨rfl, hm1, d0, d1⟩) | (go_at_call 55; refine (HQ.out _ hm1).mono ?_; rintro e w2 ⟨rfl, hm2, d2, d3⟩))
      have c2 := hm2.head.cell 2
      have c3 := hm2.head.cell 3
      simp only [List.getElem?_toArray, List.getElem?_cons_zero, List.getElem?_cons_succ] at c2 c3
      have HM := Lib.hid hm2
      clear hm1 hm2 d0 d1 d2 d3 q0 q1 HPW
      go_wp2_with (fail)
      refine (HSD.out _).mono ?_
      rintro e w3 ⟨rfl, hk⟩
      have hm3 := (HM.out.keep hk).keep ((Keeps.refl [] w3).alloc (.cells #[.int .i64 (t.at_ 1).g, .int .i64 sp] 64))
      clear c2 c3
      have f2 := hm3.head.frozen 2
      have f3 := hm3.head.frozen 3
      have f5 := hm3.head.frozen 5
      have c2 := hm3.head.cell 2
      have c3 := hm3.head.cell 3
      have c5 := hm3.head.cell 5
      simp only [List.getElem?_toArray, List.getElem?_cons_zero, List.getElem?_cons_succ] at c2 c3 c5
      have HM3 := Lib.hid hm3
      clear hm3 hk
      go_wp2
      go_ret2
      obtain ⟨z1, z2⟩ := HM3.out.moved HKK.out HSP.out H.out
      exact ⟨rfl, z1, z2⟩

theorem vMove_ok (T : RT) (cap : Nat) (t t' : Tu) (side n : Int) (k : Nat) (r : Int) (hr : t.move cap side n = (k, r, t')) (w : World) (h : RtAt w T cap t) :
    Calls Tryz.prog 26 #[.pointer (some ⟨T.b, 0, none⟩), .int .i64 side, .int .i64 n] w fun e w' => e = .returned (.tuple #[.int .i64 k, .int .i64 r]) ∧ RtAt w' T cap t' ∧ Keeps T.l w w' := by
  unfold Tu.move at hr
  cases hs : sideB side with
  | false =>
    rw [hs, if_neg (by simp)] at hr
    obtain ⟨⟨rfl, rfl⟩, rfl⟩ := hr170 hr
    have HS := Lib.hid (vside_any side false hs)
    have H := Lib.hid h
    clear hr hs h
    go_enter Tryz.func26, Tryz.ntmps26
    go_wp2_with (fail)
    refine (HS.out _).mono ?_
    rintro e w1 ⟨rfl, rfl⟩
    go_wp2
    go_ret2
    exact ⟨rfl, H.out, Keeps.refl _ _⟩
  | true =>
    rw [hs, if_pos rfl] at hr
    have hs' : side = 0 ∨ side = 1 := by simpa [sideB] using hs
    cases ho : movesB t.st with
    | false =>
      rw [ho, if_neg (by simp)] at hr
      obtain ⟨rfl, rfl, rfl⟩ := hr3 hr
      have HS := Lib.hid (vside_any side true hs)
      have c0 := h.c0
      have H := Lib.hid h
      have hst : t.st < 2 ∨ 5 < t.st := by simp [movesB] at ho; omega
      clear hr hs hs' h ho
      rcases hst with hst | hst
      · have t2 : (t.st : Int) < 2 := by omega
        clear hst
        go_enter Tryz.func26, Tryz.ntmps26
        go_wp2_with (fail)
        refine (HS.out _).mono ?_
        rintro e w1 ⟨rfl, rfl⟩
        go_wp2
        go_ret2
        exact ⟨rfl, H.out, Keeps.refl _ _⟩
      · have t2 : ¬ (t.st : Int) < 2 := by omega
        have t5 : (5 : Int) < (t.st : Int) := by omega
        clear hst
        go_enter Tryz.func26, Tryz.ntmps26
        go_wp2_with (fail)
        refine (HS.out _).mono ?_
        rintro e w1 ⟨rfl, rfl⟩
        go_wp2
        go_ret2
        exact ⟨rfl, H.out, Keeps.refl _ _⟩
    | true =>
      rw [ho, if_pos rfl] at hr
      by_cases hn : n < 0
      · rw [if_pos hn] at hr
        obtain ⟨rfl, rfl, rfl⟩ := hr3 hr
        have HS := Lib.hid (vside_any side true hs)
        have c0 := h.c0
        have H := Lib.hid h
        have hst : 2 ≤ t.st ∧ t.st ≤ 5 := by simpa [movesB] using ho
        have t2 : ¬ (t.st : Int) < 2 := by omega
        have t5 : ¬ (5 : Int) < (t.st : Int) := by omega
        clear hr hs hs' h ho hst
        go_enter Tryz.func26, Tryz.ntmps26
        go_wp2_with (fail)
        refine (HS.out _).mono ?_
        rintro e w1 ⟨rfl, rfl⟩
        go_wp2
        go_ret2
        exact ⟨rfl, H.out, Keeps.refl _ _⟩
      · rw [if_neg hn] at hr
        obtain ⟨rfl, rfl, rfl⟩ := hr3 hr
        have := vMove_go T cap t side hs' n.toNat _ rfl ho w h
        rwa [Int.toNat_of_nonneg (by omega)] at this
end Go.Proofs.YtollcbacpoohlaaGreatDoor
