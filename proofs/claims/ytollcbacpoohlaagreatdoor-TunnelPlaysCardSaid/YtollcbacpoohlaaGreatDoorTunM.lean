/- The walk of a way's move. -/
import Derived.Test.YtollcbacpoohlaaGreatDoorTunW
import Derived.Deep.DeepCutAuto
namespace Go.Proofs.YtollcbacpoohlaaGreatDoor
open Go.RowKit
attribute [local go_sem ↓] Go.wp_at_zero Go.wp_at_succ

theorem least_at (L : WL) (cap : Nat) (y : Wy) (n : Nat) (k : Nat) (hk : y.k cap n = k) (a : Nat) (w : World) (h : WyAt w L cap y) (hf : Blk w a 33 (lstFs L)) :
    Calls Tryz.prog 66 #[.int .i64 n, .slice (some ⟨a, 0, none⟩) 3 3] w fun e w' => e = .returned (.int .i64 k) ∧ Keeps [] w w' ∧ w'.cell? ⟨L.b, 0, none⟩ = some (.pointer (some ⟨L.i, 0, none⟩)) ∧ w'.cell? ⟨L.b, 1, none⟩ = some (.pointer (some ⟨L.o, 0, none⟩)) :=
  (least_any L cap y n k hk a w h hf).mono fun _ _ ⟨h1, h2⟩ => ⟨h1, h2, (h.keeps h2 (by simp)).c0, (h.keeps h2 (by simp)).c1⟩

theorem cSpend_eq (g s n sp : Nat) (hsp : s + n = sp) (h : okC g s = true) (hn : n ≤ g - s) (w : World) :
    Calls Tryz.prog 71 #[.agg #[.int .i64 g, .int .i64 s], .int .i64 n] w fun e w' => e = .returned (.tuple #[.agg #[.int .i64 g, .int .i64 sp], .int .i64 0]) ∧ Keeps [] w w' := by
  subst hsp; exact cSpend_any g s n h hn w

/-- A way whose IN gave k bytes, not yet in OUT. -/
structure MidW (w0 w : World) (L : WL) (cap : Nat) (y : Wy) (k : Nat) (o : List UInt8) : Prop where
  head : Blk w L.b 82 #[.pointer (some ⟨L.i, 0, none⟩), .pointer (some ⟨L.o, 0, none⟩), .int .i64 y.g, .int .i64 y.s, .int .i64 y.f, .int .i64 y.s, .int .i64 y.d]
  fi : Fi w L.i L.ib cap (y.i.drop k)
  fo : Fi w L.o L.ob cap o
  kp : Keeps [L.i, L.o, L.ob] w0 w

theorem popW (L : WL) (cap : Nat) (y : Wy) (k : Nat) (t : ByteArray) (ht : str (y.i.take k) = t) (w : World) (h : WyAt w L cap y) :
    Calls Tryz.prog 70 #[.pointer (some ⟨L.i, 0, none⟩), .int .i64 k] w fun e w' => e = .returned (.string t) ∧ MidW w w' L cap y k y.o ∧ w'.cell? ⟨L.b, 0, none⟩ = some (.pointer (some ⟨L.i, 0, none⟩)) ∧ w'.cell? ⟨L.b, 1, none⟩ = some (.pointer (some ⟨L.o, 0, none⟩)) := by
  obtain ⟨a1, a2, a3, a4, b1, b2, b3, c1, c2, d1⟩ := h.ne
  refine (qpop_eq L.i L.ib cap y.i (y.i.drop k) k t (by simpa using ht) (by simp) w h.fi).mono ?_
  rintro e w' ⟨rfl, hf, hk⟩
  have hd := h.head.keeps hk (by simpa using a1)
  exact ⟨rfl, ⟨hd, hf, h.fo.keeps hk (by simpa using fun e => b2 e.symm) (by simpa using fun e => b3 e.symm), hk.mono (by simp)⟩, hd.cell 0, hd.cell 1⟩
theorem pushW (L : WL) (cap : Nat) (y : Wy) (n k : Nat) (t : ByteArray) (hk : y.k cap n = k) (ht : str (y.i.take k) = t) (hne : L.l.Nodup) (w0 w : World) (h : MidW w0 w L cap y k y.o) :
    Calls Tryz.prog 64 #[.pointer (some ⟨L.o, 0, none⟩), .string t] w fun e w' => e = .returned (.int .i64 k) ∧ MidW w0 w' L cap y k (y.o ++ y.i.take k) ∧ w'.cell? ⟨L.b, 0, none⟩ = some (.pointer (some ⟨L.i, 0, none⟩)) ∧ w'.cell? ⟨L.b, 1, none⟩ = some (.pointer (some ⟨L.o, 0, none⟩)) := by
  have hts : t.size = (y.i.take k).length := by rw [← ht, str_size]
  have htl : t.data.toList = y.i.take k := by rw [← ht, str_toList]
  have hkl := y.k_le cap n
  rw [hk] at hkl
  rw [List.length_take] at hts
  have hfo := h.fo.le
  simp only [WL.l, List.nodup_cons, List.mem_cons, List.not_mem_nil, or_false, not_or] at hne
  obtain ⟨⟨a1, a2, a3, a4⟩, ⟨b1, b2, b3⟩, ⟨c1, c2⟩, d1, _⟩ := hne
  refine (qpush_eq L.o L.ob cap k y.o (y.o ++ y.i.take k) t (by omega) (by rw [htl, List.take_take, Nat.min_self]) w h.fo (by omega)).mono ?_
  rintro e w' ⟨rfl, hf, hk⟩
  have hd := h.head.keeps hk (by simp; exact ⟨a3, a4⟩)
  exact ⟨rfl, ⟨hd, h.fi.keeps hk (by simp; exact ⟨b2, b3⟩) (by simp; exact ⟨c1, c2⟩), hf, h.kp.trans (hk.mono (by simp))⟩, hd.cell 0, hd.cell 1⟩

theorem move_end {w wc w2 w3 : World} {L : WL} {cap n k sp : Nat} {y : Wy} (H : WyAt w L cap y) (hk : Keeps [] w wc) (hm : MidW wc.drew w2 L cap y k (y.o ++ y.i.take k)) (hk3 : Keeps [] w2 w3) (hsp : y.s + k = sp) (hkk : y.k cap n = k) :
    WyAt (((w3.setCell ⟨L.b, 2, none⟩ (.int .i64 y.g)).setCell ⟨L.b, 3, none⟩ (.int .i64 sp)).setCell ⟨L.b, 5, none⟩ (.int .i64 ((y.s : Int) + (k : Int)))) L cap (y.move cap n) ∧
    Keeps L.l w (((w3.setCell ⟨L.b, 2, none⟩ (.int .i64 y.g)).setCell ⟨L.b, 3, none⟩ (.int .i64 sp)).setCell ⟨L.b, 5, none⟩ (.int .i64 ((y.s : Int) + (k : Int)))) := by
  obtain ⟨a1, a2, a3, a4, b1, b2, b3, c1, c2, d1⟩ := H.ne
  have hd := (blk7_set ((blk7_set (hm.head.keeps hk3 (by simp))).2.2.2 (.int .i64 y.g) (.int .i64 sp))).2.1 (.int .i64 ((y.s : Int) + (k : Int)))
  have hk5 : Keeps [L.b] w3 (((w3.setCell ⟨L.b, 2, none⟩ (.int .i64 y.g)).setCell ⟨L.b, 3, none⟩ (.int .i64 sp)).setCell ⟨L.b, 5, none⟩ (.int .i64 ((y.s : Int) + (k : Int)))) :=
    (((Keeps.refl [L.b] w3).setCell (p := ⟨L.b, 2, none⟩) (.inl (by simp)) _).setCell (p := ⟨L.b, 3, none⟩) (.inl (by simp)) _).setCell (p := ⟨L.b, 5, none⟩) (.inl (by simp)) _
  have hfi := (hm.fi.keeps hk3 (by simp) (by simp)).keeps hk5 (by simpa using fun e => a1 e.symm) (by simpa using fun e => a2 e.symm)
  have hfo := (hm.fo.keeps hk3 (by simp) (by simp)).keeps hk5 (by simpa using fun e => a3 e.symm) (by simpa using fun e => a4 e.symm)
  have hall : Keeps L.l w w3 := ((((hk.mono (S' := L.l) (by simp)).drew).trans (hm.kp.mono (by simp [WL.l])))).trans (hk3.mono (by simp))
  refine ⟨⟨?_, ?_, ?_, H.nd, H.ok.move n⟩, hall.trans (hk5.mono (by simp [WL.l]))⟩
  · simp only [Wy.move, hkk]
    rw [← Int.natCast_add, hsp] at hd ⊢
    exact hd
  · simp only [Wy.move, hkk]; exact hfi
  · simp only [Wy.move, hkk]; exact hfo

set_option maxRecDepth 100000 in
set_option maxHeartbeats 2000000 in
theorem ymove_any (L : WL) (cap : Nat) (y : Wy) (n : Nat) (k : Nat) (hk : y.k cap n = k) (w : World) (h : WyAt w L cap y) :
    Calls Tryz.prog 40 #[.pointer (some ⟨L.b, 0, none⟩), .int .i64 n] w fun e w' => e = .returned (.int .i64 k) ∧ WyAt w' L cap (y.move cap n) ∧ Keeps L.l w w' := by
  have c0 := h.c0
  have c1 := h.c1
  have HKK := Lib.hid hk
  have hne := h.ne
  have HNE := Lib.hid hne
  have H := Lib.hid h
  have hal : ∀ o : Obj, WyAt (w.alloc o) L cap y := fun o => h.keeps ((Keeps.refl [] w).alloc o) (by simp)
  have HA := Lib.hid hal
  clear h hk hne hal
  go_enter Tryz.func40, Tryz.ntmps40
  go_wp2_with (fail)
  go_cut [1] (fun m wx => m = .int .i64 k ∧ Keeps [] w wx)
  case first =>
    go_region_held3 (fun w' => w'.cell? ⟨L.b, 0, none⟩ = some (.pointer (some ⟨L.i, 0, none⟩)) ∧ w'.cell? ⟨L.b, 1, none⟩ = some (.pointer (some ⟨L.o, 0, none⟩))) (go_keep) (first | (go_at_call 66; refine (least_at L cap y n k HKK.out _ _ ?_ ?_).mono ?_ <;> first | exact WyAt.keeps (HA.out _) ((Keeps.refl [] _).drewN 1) (by simp) | exact (Blk.new _ _ _).drew | (rintro e w1 ⟨rfl, hk, d0, d1⟩)))
    all_goals go_wp2_with (fail)
    all_goals go_meet
    all_goals exact ⟨rfl, (((Keeps.refl [] w).alloc _).drew).trans hk⟩
  case rest =>
    obtain ⟨rfl, hK⟩ := hcut
    have hK' := hK
    have h1 := H.out.keeps hK (by simp)
    have c0 := h1.c0
    have c1 := h1.c1
    clear hK
    obtain ⟨t, ht⟩ : ∃ t, str (y.i.take k) = t := ⟨_, rfl⟩
    have hp := popW L cap y k t ht wc.drew (h1.keeps ((Keeps.refl [] _).drew) (by simp))
    have hpu := pushW L cap y n k t HKK.out ht H.out.nd wc.drew
    have HH := Lib.hid h1
    have HP := Lib.hid hp
    have HPU := Lib.hid hpu
    have HK := Lib.hid hK'
    have HO := Lib.hid (spent_ok y.g y.s k h1.ok.c (by have := y.k_le cap n; have := HKK.out; omega))
    have hkl : k ≤ y.g - y.s := by have := y.k_le cap n; have := HKK.out; omega
    have hbd : (y.s : Int) + (k : Int) ≤ 9000000000000 := by have := okC_le h1.ok.c; omega
    have HKL := Lib.hid hkl
    clear h1 hp hpu ht HA hkl hK'
    go_wp2_with (fail)
    go_region_held3 (fun w' => w'.cell? ⟨L.b, 0, none⟩ = some (.pointer (some ⟨L.i, 0, none⟩)) ∧ w'.cell? ⟨L.b, 1, none⟩ = some (.pointer (some ⟨L.o, 0, none⟩))) (go_keep) (first | (go_at_call 70; refine HP.out.mono ?_; rintro e w1 ⟨rfl, hm1, d0, d1⟩) | (go_at_call 64; refine (HPU.out _ hm1).mono ?_; rintro e w2 ⟨rfl, hm2, d2, d3⟩))
    obtain ⟨sp, hsp⟩ : ∃ sp : Nat, y.s + k = sp := ⟨_, rfl⟩
    have hc := HH.out.ok.c
    have c2 := hm2.head.cell 2
    have c3 := hm2.head.cell 3
    have hsd := cSpend_eq y.g y.s k sp hsp hc HKL.out
    have HC := Lib.hid hc
    have HSD := Lib.hid hsd
    have HSP := Lib.hid hsp
    have HM := Lib.hid hm2
    clear hc hsd hm1 hm2 hsp d0 d1 d2 d3 c0 c1 HP HPU
    go_wp2_with (fail)
    refine (HSD.out _).mono ?_
    rintro e w3 ⟨rfl, hk⟩
    have hd := HM.out.head.keeps hk (by simp)
    have f2 := hd.frozen 2
    have f3 := hd.frozen 3
    have f5 := hd.frozen 5
    have c2 := hd.cell 2
    have c3 := hd.cell 3
    have c5 := hd.cell 5
    have HD := Lib.hid hd
    have HK3 := Lib.hid hk
    clear hk hd
    go_wp2
    go_ret
    exact ⟨rfl, move_end H.out HK.out HM.out HK3.out HSP.out HKK.out⟩
end Go.Proofs.YtollcbacpoohlaaGreatDoor
