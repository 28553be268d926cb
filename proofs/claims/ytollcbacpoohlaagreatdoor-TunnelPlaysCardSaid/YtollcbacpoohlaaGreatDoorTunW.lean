/- The walks of a way: left, least, feed, drain, clear. -/
import Derived.Test.YtollcbacpoohlaaGreatDoorTunP
import Derived.Test.YtollcbacpoohlaaGreatDoorFifoK
import Derived.Deep.RegionHeld3
namespace Go.Proofs.YtollcbacpoohlaaGreatDoor
open Go.RowKit
attribute [local go_sem ↓] Go.wp_at_zero Go.wp_at_succ

/-- Where a way lies: itself, IN and its ring, OUT and its ring. -/
structure WL where
  b : Nat
  i : Nat
  ib : Nat
  o : Nat
  ob : Nat
def WL.l (L : WL) : List Nat := [L.b, L.i, L.ib, L.o, L.ob]

structure WyAt (w : World) (L : WL) (cap : Nat) (y : Wy) : Prop where
  head : Blk w L.b 82 #[.pointer (some ⟨L.i, 0, none⟩), .pointer (some ⟨L.o, 0, none⟩), .int .i64 y.g, .int .i64 y.s, .int .i64 y.f, .int .i64 y.s, .int .i64 y.d]
  fi : Fi w L.i L.ib cap y.i
  fo : Fi w L.o L.ob cap y.o
  nd : L.l.Nodup
  ok : WyOk cap y

section
variable {w w' : World} {L : WL} {cap : Nat} {y : Wy} {S : List Nat}
theorem WyAt.keeps (h : WyAt w L cap y) (hk : Keeps S w w') (hn : ∀ k ∈ L.l, k ∉ S) : WyAt w' L cap y :=
  ⟨h.head.keeps hk (hn _ (by simp [WL.l])), h.fi.keeps hk (hn _ (by simp [WL.l])) (hn _ (by simp [WL.l])), h.fo.keeps hk (hn _ (by simp [WL.l])) (hn _ (by simp [WL.l])), h.nd, h.ok⟩
theorem WyAt.ne (h : WyAt w L cap y) : L.b ≠ L.i ∧ L.b ≠ L.ib ∧ L.b ≠ L.o ∧ L.b ≠ L.ob ∧ L.i ≠ L.ib ∧ L.i ≠ L.o ∧ L.i ≠ L.ob ∧ L.ib ≠ L.o ∧ L.ib ≠ L.ob ∧ L.o ≠ L.ob := by
  have := h.nd
  simp only [WL.l, List.nodup_cons, List.mem_cons, List.not_mem_nil, or_false, not_or] at this
  obtain ⟨⟨a1, a2, a3, a4⟩, ⟨b1, b2, b3⟩, ⟨c1, c2⟩, d1, _⟩ := this
  exact ⟨a1, a2, a3, a4, b1, b2, b3, c1, c2, d1⟩
theorem WyAt.c0 (h : WyAt w L cap y) : w.cell? ⟨L.b, 0, none⟩ = some (.pointer (some ⟨L.i, 0, none⟩)) := h.head.cell 0
theorem WyAt.c1 (h : WyAt w L cap y) : w.cell? ⟨L.b, 1, none⟩ = some (.pointer (some ⟨L.o, 0, none⟩)) := h.head.cell 1
theorem WyAt.c2 (h : WyAt w L cap y) : w.cell? ⟨L.b, 2, none⟩ = some (.int .i64 y.g) := h.head.cell 2
theorem WyAt.c3 (h : WyAt w L cap y) : w.cell? ⟨L.b, 3, none⟩ = some (.int .i64 y.s) := h.head.cell 3
theorem WyAt.c4 (h : WyAt w L cap y) : w.cell? ⟨L.b, 4, none⟩ = some (.int .i64 y.f) := h.head.cell 4
theorem WyAt.c5 (h : WyAt w L cap y) : w.cell? ⟨L.b, 5, none⟩ = some (.int .i64 y.s) := h.head.cell 5
theorem WyAt.c6 (h : WyAt w L cap y) : w.cell? ⟨L.b, 6, none⟩ = some (.int .i64 y.d) := h.head.cell 6
end

theorem yleft_any (L : WL) (cap : Nat) (y : Wy) (w : World) (h : WyAt w L cap y) :
    Calls Tryz.prog 67 #[.pointer (some ⟨L.b, 0, none⟩)] w fun e w' => e = .returned (.int .i64 ((y.g - y.s : Nat) : Int)) ∧ Keeps [] w w' := by
  have c2 := h.c2
  have c3 := h.c3
  have HO := Lib.hid h.ok.c
  clear h
  go_enter Tryz.func67, Tryz.ntmps67
  go_wp2_with (fail)
  refine (cLeft_any y.g y.s HO.out _).mono ?_
  rintro e w1 ⟨rfl, hk⟩
  have HK := Lib.hid hk
  clear hk
  go_wp2
  go_ret
  exact ⟨rfl, HK.out⟩

/-- What least is told. -/
def lstM (cap : Nat) (y : Wy) (n : Nat) : Nat → Nat
  | 0 => n
  | 1 => min n (y.g - y.s)
  | 2 => min (min n (y.g - y.s)) y.i.length
  | _ => y.k cap n
def lstFs (L : WL) : Array Value := #[.func (.func 67) #[.pointer (some ⟨L.b, 0, none⟩)] #[], .func (.func 68) #[.pointer (some ⟨L.i, 0, none⟩)] #[], .func (.func 69) #[.pointer (some ⟨L.o, 0, none⟩)] #[]]
theorem lst_min (m x r : Nat) (h : min m x = r) : (if x < m then (x : Int) else (m : Int)) = (r : Int) := by
  subst h; split <;> omega

set_option maxRecDepth 100000 in
set_option maxHeartbeats 1000000 in
theorem least_any (L : WL) (cap : Nat) (y : Wy) (n : Nat) (k : Nat) (hk : y.k cap n = k) (a : Nat) (w : World) (h : WyAt w L cap y) (hf : Blk w a 33 (lstFs L)) :
    Calls Tryz.prog 66 #[.int .i64 n, .slice (some ⟨a, 0, none⟩) 3 3] w fun e w' => e = .returned (.int .i64 k) ∧ Keeps [] w w' := by
  have HKK := Lib.hid hk
  have H := Lib.hid h
  have HF := Lib.hid hf
  clear h hf hk
  go_enter Tryz.func66, Tryz.ntmps66
  go_wp2
  go_loopw [0, 9] (fun m i wr => ∃ j : Nat, j ≤ 3 ∧ i = .int .i64 j ∧ m = .int .i64 (lstM cap y n j) ∧ Keeps [] w wr) (fun _ i _ => 3 - (intOf i).toNat)
  case atStart => exact ⟨0, by omega, rfl, rfl, Keeps.refl _ _⟩
  case round =>
    obtain ⟨j, hj, rfl, rfl, hK⟩ := hrel
    have HK := Lib.hid hK
    have hcell := (HF.out.keeps hK (by simp)).cell j
    have HH := Lib.hid (H.out.keeps hK (by simp))
    clear hK
    obtain rfl | rfl | rfl | rfl : j = 0 ∨ j = 1 ∨ j = 2 ∨ j = 3 := by omega
    · obtain ⟨m, hm⟩ : ∃ m, lstM cap y n 0 = m := ⟨_, rfl⟩
      obtain ⟨r, hr⟩ : ∃ r, lstM cap y n 1 = r := ⟨_, rfl⟩
      have hmin : min m (y.g - y.s) = r := by rw [← hm, ← hr]; rfl
      obtain ⟨x, hx⟩ : ∃ x, y.g - y.s = x := ⟨_, rfl⟩
      rw [hx] at hmin
      have hcl : wr.cell? ⟨a, 0, none⟩ = some (.func (.func 67) #[.pointer (some ⟨L.b, 0, none⟩)] #[]) := hcell
      have HM := Lib.hid hmin
      have HX := Lib.hid hx
      have HR := Lib.hid hr
      rw [hm]
      clear hmin hx hr hm hcell
      go_wp2_with (fail)
      refine (HX.out ▸ yleft_any L cap y _ HH.out).mono ?_
      rintro e w1 ⟨rfl, hk⟩
      have HK1 := Lib.hid (HK.out.trans hk)
      clear hk hcl HK
      go_wp2
      go_roundw
      case rel => exact ⟨1, by omega, rfl, by rw [HR.out, lst_min m x r HM.out], HK1.out⟩
      case measure => simp [intOf]
    · obtain ⟨m, hm⟩ : ∃ m, lstM cap y n 1 = m := ⟨_, rfl⟩
      obtain ⟨r, hr⟩ : ∃ r, lstM cap y n 2 = r := ⟨_, rfl⟩
      have hmin : min m (y.i.length) = r := by rw [← hm, ← hr]; rfl
      obtain ⟨x, hx⟩ : ∃ x, y.i.length = x := ⟨_, rfl⟩
      rw [hx] at hmin
      have hcl : wr.cell? ⟨a, 1, none⟩ = some (.func (.func 68) #[.pointer (some ⟨L.i, 0, none⟩)] #[]) := hcell
      have HM := Lib.hid hmin
      have HX := Lib.hid hx
      have HR := Lib.hid hr
      rw [hm]
      clear hmin hx hr hm hcell
      go_wp2_with (fail)
      refine (qlen_eq L.i L.ib cap x y.i HX.out _ HH.out.fi).mono ?_
      rintro e w1 ⟨rfl, hk⟩
      have HK1 := Lib.hid (HK.out.trans hk)
      clear hk hcl HK
      go_wp2
      go_roundw
      case rel => exact ⟨2, by omega, rfl, by rw [HR.out, lst_min m x r HM.out], HK1.out⟩
      case measure => simp [intOf]
    · obtain ⟨m, hm⟩ : ∃ m, lstM cap y n 2 = m := ⟨_, rfl⟩
      obtain ⟨r, hr⟩ : ∃ r, lstM cap y n 3 = r := ⟨_, rfl⟩
      have hmin : min m (cap - y.o.length) = r := by rw [← hm, ← hr]; rfl
      obtain ⟨x, hx⟩ : ∃ x, cap - y.o.length = x := ⟨_, rfl⟩
      rw [hx] at hmin
      have hcl : wr.cell? ⟨a, 2, none⟩ = some (.func (.func 69) #[.pointer (some ⟨L.o, 0, none⟩)] #[]) := hcell
      have HM := Lib.hid hmin
      have HX := Lib.hid hx
      have HR := Lib.hid hr
      rw [hm]
      clear hmin hx hr hm hcell
      go_wp2_with (fail)
      refine (qroom_eq L.o L.ob cap x y.o HX.out _ HH.out.fo).mono ?_
      rintro e w1 ⟨rfl, hk⟩
      have HK1 := Lib.hid (HK.out.trans hk)
      clear hk hcl HK
      go_wp2
      go_roundw
      case rel => exact ⟨3, by omega, rfl, by rw [HR.out, lst_min m x r HM.out], HK1.out⟩
      case measure => simp [intOf]
    · have e : lstM cap y n 3 = k := HKK.out
      rw [e]
      clear e hcell
      go_wp2
      go_ret
      exact ⟨rfl, HK.out⟩

theorem blk7_set {w : World} {b : Nat} {t : TypeId} {v0 v1 v2 v3 v4 v5 v6 : Value} (h : Blk w b t #[v0, v1, v2, v3, v4, v5, v6]) :
    (∀ x, Blk (w.setCell ⟨b, 4, none⟩ x) b t #[v0, v1, v2, v3, x, v5, v6]) ∧ (∀ x, Blk (w.setCell ⟨b, 5, none⟩ x) b t #[v0, v1, v2, v3, v4, x, v6]) ∧ (∀ x, Blk (w.setCell ⟨b, 6, none⟩ x) b t #[v0, v1, v2, v3, v4, v5, x]) ∧
    (∀ x z, Blk ((w.setCell ⟨b, 2, none⟩ x).setCell ⟨b, 3, none⟩ z) b t #[v0, v1, x, z, v4, v5, v6]) :=
  ⟨fun x => by simpa using h.set_ 4 x, fun x => by simpa using h.set_ 5 x, fun x => by simpa using h.set_ 6 x, fun x z => by simpa using (h.set_ 2 x).set_ 3 z⟩

set_option maxHeartbeats 1000000 in
theorem yfeed_any (L : WL) (cap : Nat) (y : Wy) (s : ByteArray) (n : Nat) (hn : y.n cap s.data.toList = n) (hs : s.size ≤ 1000000) (w : World) (h : WyAt w L cap y) :
    Calls Tryz.prog 35 #[.pointer (some ⟨L.b, 0, none⟩), .string s] w fun e w' => e = .returned (.int .i64 n) ∧ WyAt w' L cap (y.feed cap s.data.toList) ∧ Keeps L.l w w' := by
  have c0 := h.c0
  have hne := h.ne
  have hle := h.fi.le
  have hq := qpush_eq L.i L.ib cap n y.i _ s (by rw [← hn]; rfl) rfl w h.fi hs
  have hbd : y.f ≤ 9000000000000 := by have := h.ok.f'; have := okC_le h.ok.c; omega
  have hn' : n ≤ 9000000000000 := by have := (y.n_le cap s.data.toList).2; omega
  have HQ := Lib.hid hq
  have H := Lib.hid h
  have HN := Lib.hid hn
  have HNE := Lib.hid hne
  clear hq h hn hne hle
  go_enter Tryz.func35, Tryz.ntmps35
  go_wp2_with (fail)
  refine HQ.out.mono ?_
  rintro e w1 ⟨rfl, hf, hk⟩
  have hd := H.out.head.keeps hk (by simp [HNE.out])
  have c4 := hd.cell 4
  have f4 := hd.frozen 4
  have HD := Lib.hid hd
  have HF := Lib.hid hf
  have HK := Lib.hid hk
  clear hd hf hk
  go_wp2
  go_ret
  have hnn := HNE.out
  have hk2 : Keeps L.l w1 (w1.setCell ⟨L.b, 4, none⟩ (.int .i64 ((y.f : Int) + (n : Int)))) := (Keeps.refl L.l w1).setCell (p := ⟨L.b, 4, none⟩) (.inl (by simp [WL.l])) _
  have hk3 : Keeps [L.b] w1 (w1.setCell ⟨L.b, 4, none⟩ (.int .i64 ((y.f : Int) + (n : Int)))) := (Keeps.refl [L.b] w1).setCell (p := ⟨L.b, 4, none⟩) (.inl (by simp)) _
  refine ⟨rfl, ⟨?_, ?_, ?_, H.out.nd, H.out.ok.feed _⟩, (HK.out.mono (by simp [WL.l])).trans hk2⟩
  · have h4 := (blk7_set HD.out).1 (.int .i64 ((y.f : Int) + (n : Int)))
    simp only [Wy.feed, HN.out, Int.natCast_add]
    exact h4
  · simp only [Wy.feed, HN.out]
    exact HF.out.keeps hk3 (by simp; omega) (by simp; omega)
  · exact (H.out.fo.keeps HK.out (by simp; omega) (by simp; omega)).keeps hk3 (by simp; omega) (by simp; omega)

set_option maxHeartbeats 1000000 in
theorem ydrain_any (L : WL) (cap : Nat) (y : Wy) (n : Int) (t : ByteArray) (ht : str (y.o.take n.toNat) = t) (w : World) (h : WyAt w L cap y) :
    Calls Tryz.prog 42 #[.pointer (some ⟨L.b, 0, none⟩), .int .i64 n] w fun e w' => e = .returned (.string t) ∧ WyAt w' L cap (y.drain n) ∧ Keeps L.l w w' := by
  have c1 := h.c1
  have hne := h.ne
  have hq := qpop_eq L.o L.ob cap y.o _ n t ht rfl w h.fo
  have hsz : t.size = (y.o.take n.toNat).length := by rw [← ht, str_size]
  have hbd : y.d ≤ 9000000000000 := by have := h.ok.d; have := okC_le h.ok.c; omega
  have hn' : t.size ≤ 9000000000000 := by have := h.ok.o; have := h.fo.le; rw [hsz, List.length_take]; omega
  have HQ := Lib.hid hq
  have H := Lib.hid h
  have HN := Lib.hid hsz
  have HNE := Lib.hid hne
  clear hq h hne hsz ht
  go_enter Tryz.func42, Tryz.ntmps42
  go_wp2_with (fail)
  refine HQ.out.mono ?_
  rintro e w1 ⟨rfl, hf, hk⟩
  have hd := H.out.head.keeps hk (by simp [HNE.out])
  have c6 := hd.cell 6
  have f6 := hd.frozen 6
  have HD := Lib.hid hd
  have HF := Lib.hid hf
  have HK := Lib.hid hk
  clear hd hf hk
  go_wp2
  go_ret
  have hnn := HNE.out
  have hk2 : Keeps L.l w1 (w1.setCell ⟨L.b, 6, none⟩ (.int .i64 ((y.d : Int) + (t.size : Int)))) := (Keeps.refl L.l w1).setCell (p := ⟨L.b, 6, none⟩) (.inl (by simp [WL.l])) _
  have hk3 : Keeps [L.b] w1 (w1.setCell ⟨L.b, 6, none⟩ (.int .i64 ((y.d : Int) + (t.size : Int)))) := (Keeps.refl [L.b] w1).setCell (p := ⟨L.b, 6, none⟩) (.inl (by simp)) _
  refine ⟨rfl, ⟨?_, ?_, ?_, H.out.nd, H.out.ok.drain _⟩, (HK.out.mono (by simp [WL.l])).trans hk2⟩
  · have h4 := (blk7_set HD.out).2.2.1 (.int .i64 ((y.d : Int) + (t.size : Int)))
    simp only [Wy.drain, ← HN.out, Int.natCast_add]
    exact h4
  · exact (H.out.fi.keeps HK.out (by simp; omega) (by simp; omega)).keeps hk3 (by simp; omega) (by simp; omega)
  · exact HF.out.keeps hk3 (by simp; omega) (by simp; omega)

theorem yclear_any (L : WL) (cap : Nat) (y : Wy) (n : Nat) (hn : y.i.length = n) (hcl : WyOk cap y.clr) (w : World) (h : WyAt w L cap y) :
    Calls Tryz.prog 46 #[.pointer (some ⟨L.b, 0, none⟩)] w fun e w' => e = .returned (.int .i64 n) ∧ WyAt w' L cap y.clr ∧ Keeps L.l w w' := by
  have c0 := h.c0
  have hne := h.ne
  have hq := qclear_eq L.i L.ib cap n y.i hn w h.fi
  have HQ := Lib.hid hq
  have H := Lib.hid h
  have HNE := Lib.hid hne
  clear hq h hne hn
  go_enter Tryz.func46, Tryz.ntmps46
  go_wp2_with (fail)
  refine HQ.out.mono ?_
  rintro e w1 ⟨rfl, hf, hk⟩
  have HF := Lib.hid hf
  have HK := Lib.hid hk
  clear hf hk
  go_wp2
  go_ret
  have hnn := HNE.out
  exact ⟨rfl, ⟨H.out.head.keeps HK.out (by simp; omega), HF.out, H.out.fo.keeps HK.out (by simp; omega) (by simp; omega), H.out.nd, hcl⟩, HK.out.mono (by simp [WL.l])⟩
end Go.Proofs.YtollcbacpoohlaaGreatDoor
