/- The walks of the document's tunnel: Grant, Feed, Drain. -/
import Derived.Test.YtollcbacpoohlaaGreatDoorTunRB
namespace Go.Proofs.YtollcbacpoohlaaGreatDoor
open Go.RowKit
attribute [local go_sem ↓] Go.wp_at_zero Go.wp_at_succ

theorem str_pre (s : ByteArray) (n : Nat) : s.extract 0 n = str (s.data.toList.take n) := by
  apply ByteArray.ext; apply Array.ext'; simp [str, ByteArray.data_extract]
theorem str_post (l : List UInt8) (n : Nat) : (str l).extract n (str l).size = str (l.drop n) := by
  apply ByteArray.ext; apply Array.ext'
  simp only [str, ByteArray.data_extract, ByteArray.size, Array.toList_extract, List.size_toArray]
  rw [List.extract_eq_take_drop, List.take_of_length_le (by simp)]
theorem str_cat (a b : List UInt8) : str a ++ str b = str (a ++ b) := by apply ByteArray.ext; simp [str]
theorem Tu.set_at (t : Tu) (side : Int) : t.set side (t.at_ side) = t := by
  unfold Tu.set Tu.at_; split <;> rfl

/-- Behind a Grant or a Spend: what was told lies in a block of its own. -/
theorem v17_blk {w1 W : World} {x y : Int} (hW : w1.alloc (.cells #[.int .i64 x, .int .i64 y] 64) = W) :
    Blk W w1.heap.size 64 #[.int .i64 x, .int .i64 y] ∧ Keeps [] w1 W := by
  subst hW
  exact ⟨Blk.new w1 64 #[.int .i64 x, .int .i64 y], (Keeps.refl [] w1).alloc _⟩

theorem RwAt.setG {w : World} {R : RL} {cap : Nat} {y y' : Wy} (h : RwAt w R cap y) (p q : Int) (hp : p = y'.g) (hq : q = y'.s) (h1 : y'.i = y.i) (h2 : y'.o = y.o) (h3 : y'.f = y.f) (h4 : y'.s = y.s) (h5 : y'.d = y.d) (ho : WyOk cap y') :
    RwAt ((w.setCell ⟨R.b, 2, none⟩ (.int .i64 p)).setCell ⟨R.b, 3, none⟩ (.int .i64 q)) R cap y' ∧ Keeps R.l w ((w.setCell ⟨R.b, 2, none⟩ (.int .i64 p)).setCell ⟨R.b, 3, none⟩ (.int .i64 q)) := by
  obtain ⟨a1, a2, a3⟩ := h.ne
  have hk : Keeps [R.b] w ((w.setCell ⟨R.b, 2, none⟩ (.int .i64 p)).setCell ⟨R.b, 3, none⟩ (.int .i64 q)) :=
    ((Keeps.refl [R.b] w).setCell (p := ⟨R.b, 2, none⟩) (.inl (by simp)) _).setCell (p := ⟨R.b, 3, none⟩) (.inl (by simp)) _
  have hd := (blk7_set h.head).2.2.2 (.int .i64 p) (.int .i64 q)
  refine ⟨⟨?_, ?_, ?_, h.nd, ho, h.cp⟩, hk.mono (by simp [RL.l])⟩
  · rw [h3, h5, ← hp, ← hq, hq, h4]; rw [hq, h4] at hd; exact hd
  · rw [h1]; exact h.fi.keeps hk (by simpa using fun e => a1 e.symm)
  · rw [h2]; exact h.fo.keeps hk (by simpa using fun e => a2 e.symm)

theorem RtAt.grantD {W : World} {T : RT} {cap : Nat} {t : Tu} (h : RtAt W T cap t) (side : Int) (g2 sp : Nat) (hsp : (t.at_ side).s = sp) (hwo : WyOk cap { t.at_ side with g := g2 }) (ho : TuOk (t.set side { t.at_ side with g := g2 })) :
    RtAt ((W.setCell ⟨(T.wl side).b, 2, none⟩ (.int .i64 g2)).setCell ⟨(T.wl side).b, 3, none⟩ (.int .i64 sp)).drew T cap (t.set side { t.at_ side with g := g2 }) ∧ Keeps T.l W ((W.setCell ⟨(T.wl side).b, 2, none⟩ (.int .i64 g2)).setCell ⟨(T.wl side).b, 3, none⟩ (.int .i64 sp)).drew := by
  obtain ⟨h1, h2⟩ := (h.way side).setG (y' := { t.at_ side with g := g2 }) g2 sp rfl (by simp [hsp]) rfl rfl rfl rfl rfl hwo
  obtain ⟨h3, h4⟩ := h.setW side h1 h2 ho
  exact ⟨h3.keep (Keeps.refl [] _).drew, h4.drew⟩

set_option maxHeartbeats 2000000 in
theorem vGrant_side (T : RT) (cap : Nat) (t : Tu) (side n : Int) (hs : side = 0 ∨ side = 1) (x y z : Int) (hx : grantA (t.at_ side).g (t.at_ side).s n = (x, y, z)) (w : World) (h : RtAt w T cap t) :
    Calls Tryz.prog 24 #[.pointer (some ⟨T.b, 0, none⟩), .int .i64 side, .int .i64 n] w fun e w' => e = .returned (.int .i64 z) ∧ RtAt w' T cap (t.set side ((t.at_ side).grant n)) ∧ Keeps T.l w w' := by
  have hsb : sideB side = true := by simpa [sideB] using hs
  have HS := Lib.hid (vside_any side true hsb)
  have hw := h.way side
  have k0 : w.cell? ⟨T.b, 1, none⟩ = some (.pointer (some ⟨(T.wl 0).b, 0, none⟩)) := h.c1
  have k1 : w.cell? ⟨T.b, 2, none⟩ = some (.pointer (some ⟨(T.wl 1).b, 0, none⟩)) := h.c2
  have q0 := hw.c2
  have q1 := hw.c3
  have HG := Lib.hid (vGrant_any _ _ n hw.ok.c x y z hx)
  have HO := Lib.hid (h.ok.grant side n)
  have HWO := Lib.hid (hw.ok.grant n)
  by_cases hz : z = 0
  · subst hz
    have hz2 : (grantA (t.at_ side).g (t.at_ side).s n).2.2 = 0 := by rw [hx]
    have hga := (grantA_ok hz2).2.2.2
    rw [hx] at hga
    obtain ⟨rfl, rfl⟩ : x = (((t.at_ side).g + n.toNat : Nat) : Int) ∧ y = ((t.at_ side).s : Int) := by simpa using hga
    have hgr : (t.at_ side).grant n = { t.at_ side with g := (t.at_ side).g + n.toNat } := by unfold Wy.grant; rw [if_pos hz2]
    rw [hgr] at HO HWO
    rw [hgr]
    obtain ⟨g2, hg2⟩ : ∃ g2, (t.at_ side).g + n.toNat = g2 := ⟨_, rfl⟩
    obtain ⟨sp, hsp⟩ : ∃ sp, (t.at_ side).s = sp := ⟨_, rfl⟩
    rw [hg2] at HG HO HWO ⊢
    rw [hsp] at HG q1
    have HSP := Lib.hid hsp
    have H := Lib.hid h
    clear hx hz2 hga hgr hg2 h hw hsb hsp
    rcases hs with rfl | rfl
    all_goals
      go_enter Tryz.func24, Tryz.ntmps24
      go_wp2_with (fail)
      refine (HS.out _).mono ?_
      rintro e w1 ⟨rfl, rfl⟩
      go_wp2_with (fail)
      refine (HG.out _).mono ?_
      rintro e w1 ⟨rfl, hk⟩
      have HK := Lib.hid hk
      clear hk k0 k1 q0 q1
      go_wp2_with (fail)
      obtain ⟨W, hW⟩ : ∃ W, w1.alloc (.cells #[.int .i64 g2, .int .i64 sp] 64) = W := ⟨_, rfl⟩
      rw [hW]
      obtain ⟨hb, hk⟩ := v17_blk hW
      have hA := H.out.keep (HK.out.trans hk)
      have k0 : W.cell? ⟨T.b, 1, none⟩ = some (.pointer (some ⟨(T.wl 0).b, 0, none⟩)) := hA.c1
      have k1 : W.cell? ⟨T.b, 2, none⟩ = some (.pointer (some ⟨(T.wl 1).b, 0, none⟩)) := hA.c2
      have b0 := hb.cell 0
      have b1 := hb.cell 1
      have f2 := (hA.way 0).head.frozen 2
      have f3 := (hA.way 0).head.frozen 3
      have f2' := (hA.way 1).head.frozen 2
      have f3' := (hA.way 1).head.frozen 3
      have d2 := (hA.way 0).c2
      have d3 := (hA.way 0).c3
      have d2' := (hA.way 1).c2
      have d3' := (hA.way 1).c3
      simp only [List.getElem?_toArray, List.getElem?_cons_zero, List.getElem?_cons_succ] at b0 b1
      have HA := Lib.hid hA
      have HKW := Lib.hid (HK.out.trans hk)
      clear hW hb hk hA
      go_region
      all_goals go_wp2
      all_goals go_ret
      all_goals
        obtain ⟨z1, z2⟩ := HA.out.grantD _ g2 sp HSP.out HWO.out HO.out
        exact ⟨rfl, z1, (HKW.out.mono (by simp)).trans z2⟩
  · have hgr : (t.at_ side).grant n = t.at_ side := by unfold Wy.grant; rw [if_neg (by rw [hx]; exact hz)]
    rw [hgr, Tu.set_at]
    have hz' : (z == 0) = false := by simpa using hz
    have H := Lib.hid h
    clear hx hgr h hw hsb hz HO HWO
    rcases hs with rfl | rfl
    all_goals
      go_enter Tryz.func24, Tryz.ntmps24
      go_wp2_with (fail)
      refine (HS.out _).mono ?_
      rintro e w1 ⟨rfl, rfl⟩
      go_wp2_with (fail)
      refine (HG.out _).mono ?_
      rintro e w1 ⟨rfl, hk⟩
      have HK := Lib.hid hk
      clear hk k0 k1 q0 q1
      go_wp2
      go_ret
      exact ⟨rfl, H.out.keep (HK.out.alloc _), (HK.out.alloc _).mono (by simp)⟩

theorem vGrant_ok (T : RT) (cap : Nat) (t t' : Tu) (side n r : Int) (hr : t.grant side n = (r, t')) (w : World) (h : RtAt w T cap t) :
    Calls Tryz.prog 24 #[.pointer (some ⟨T.b, 0, none⟩), .int .i64 side, .int .i64 n] w fun e w' => e = .returned (.int .i64 r) ∧ RtAt w' T cap t' ∧ Keeps T.l w w' := by
  unfold Tu.grant at hr
  cases hs : sideB side with
  | false =>
    rw [hs, if_neg (by simp)] at hr
    obtain ⟨rfl, rfl⟩ : (170 : Int) = r ∧ t = t' := by simpa using hr
    have HS := Lib.hid (vside_any side false hs)
    have H := Lib.hid h
    clear hr hs h
    go_enter Tryz.func24, Tryz.ntmps24
    go_wp2_with (fail)
    refine (HS.out _).mono ?_
    rintro e w1 ⟨rfl, rfl⟩
    go_wp2
    go_ret
    exact ⟨rfl, H.out, Keeps.refl _ _⟩
  | true =>
    rw [hs, if_pos rfl] at hr
    obtain ⟨rfl, rfl⟩ : (grantA (t.at_ side).g (t.at_ side).s n).2.2 = r ∧ t.set side ((t.at_ side).grant n) = t' := by simpa using hr
    exact vGrant_side T cap t side n (by simpa [sideB] using hs) _ _ _ rfl w h

/-- A way whose queues turned; its own cells still say y. -/
structure RMid (w0 w : World) (R : RL) (cap : Nat) (y : Wy) (i o : List UInt8) : Prop where
  head : Blk w R.b 66 #[.pointer (some ⟨R.i, 0, none⟩), .pointer (some ⟨R.o, 0, none⟩), .int .i64 y.g, .int .i64 y.s, .int .i64 y.f, .int .i64 y.s, .int .i64 y.d]
  fi : Ri w R.i cap (str i)
  fo : Ri w R.o cap (str o)
  kp : Keeps [R.i, R.o] w0 w

section
variable {w0 w w' : World} {R : RL} {cap : Nat} {y : Wy} {i o : List UInt8} {T : RT} {t : Tu}
theorem RwAt.mid (h : RwAt w R cap y) : RMid w w R cap y y.i y.o := ⟨h.head, h.fi, h.fo, Keeps.refl _ _⟩
theorem RMid.keep (h : RMid w0 w R cap y i o) (hk : Keeps [] w w') : RMid w0 w' R cap y i o := ⟨h.head.keeps hk (by simp), h.fi.keeps hk (by simp), h.fo.keeps hk (by simp), h.kp.trans (hk.mono (by simp))⟩
theorem RMid.fin (hm : RMid w0 w R cap y i o) (h0 : RwAt w0 R cap y) (y' : Wy) (hd : Blk w' R.b 66 #[.pointer (some ⟨R.i, 0, none⟩), .pointer (some ⟨R.o, 0, none⟩), .int .i64 y'.g, .int .i64 y'.s, .int .i64 y'.f, .int .i64 y'.s, .int .i64 y'.d])
    (hk : Keeps [R.b] w w') (hi : y'.i = i) (ho : y'.o = o) (hok : WyOk cap y') : RwAt w' R cap y' ∧ Keeps R.l w0 w' := by
  obtain ⟨a1, a2, a3⟩ := h0.ne
  exact ⟨⟨hd, by rw [hi]; exact hm.fi.keeps hk (by simpa using fun e => a1 e.symm), by rw [ho]; exact hm.fo.keeps hk (by simpa using fun e => a2 e.symm), h0.nd, hok, h0.cp⟩,
    (hm.kp.mono (by simp [RL.l])).trans (hk.mono (by simp [RL.l]))⟩
theorem RMid.heads {side : Int} {y : Wy} (hm : RMid w0 w (T.wl side) cap y i o) (h : RtAt w0 T cap t) :
    w.cell? ⟨T.b, 1, none⟩ = some (.pointer (some ⟨(T.wl 0).b, 0, none⟩)) ∧ w.cell? ⟨T.b, 2, none⟩ = some (.pointer (some ⟨(T.wl 1).b, 0, none⟩)) := by
  have hne : T.b ∉ [(T.wl side).i, (T.wl side).o] := by
    obtain ⟨a1, a2, -, -⟩ := RT.apart h.nd
    unfold RT.wl
    split
    · simp only [RL.l, List.mem_cons, List.not_mem_nil, or_false, not_or] at a2 ⊢; exact ⟨a2.2.1, a2.2.2⟩
    · simp only [RL.l, List.mem_cons, List.not_mem_nil, or_false, not_or] at a1 ⊢; exact ⟨a1.2.1, a1.2.2⟩
  have := h.head.keeps hm.kp hne
  exact ⟨this.cell 1, this.cell 2⟩

theorem take_min (l : List UInt8) (n : Nat) : l.take (min n l.length) = l.take n := by rw [← List.take_take, List.take_length]
theorem drop_min (l : List UInt8) (n : Nat) : l.drop (min n l.length) = l.drop n := by
  rcases Nat.le_total n l.length with h | h
  · rw [Nat.min_eq_left h]
  · rw [Nat.min_eq_right h, List.drop_length, List.drop_eq_nil_of_le h]

theorem RMid.popO (h : RMid w0 w R cap y i o) (hn : R.l.Nodup) (n : Int) (s : ByteArray) (hs : str (o.take n.toNat) = s) :
    Calls Tryz.prog 57 #[.pointer (some ⟨R.o, 0, none⟩), .int .i64 n] w fun e w' => e = .returned (.string s) ∧ RMid w0 w' R cap y i (o.drop n.toNat) := by
  simp only [RL.l, List.nodup_cons, List.mem_cons, List.not_mem_nil, or_false, not_or] at hn
  obtain ⟨⟨a1, a2⟩, a3, -⟩ := hn
  refine (rpop_any R.o cap (min n.toNat (str o).size) n (str o) s (str (o.drop n.toNat)) w h.fo rfl ?_ ?_).mono ?_
  · rw [str_pre, str_toList, str_size, take_min]; exact hs
  · rw [str_post, str_size, drop_min]
  · rintro e w' ⟨rfl, hf, hk⟩
    exact ⟨rfl, ⟨h.head.keeps hk (by simpa using a2), h.fi.keeps hk (by simpa using a3), hf, h.kp.trans (hk.mono (by simp))⟩⟩
theorem RMid.popI (h : RMid w0 w R cap y i o) (hn : R.l.Nodup) (n : Int) (s : ByteArray) (hs : str (i.take n.toNat) = s) :
    Calls Tryz.prog 57 #[.pointer (some ⟨R.i, 0, none⟩), .int .i64 n] w fun e w' => e = .returned (.string s) ∧ RMid w0 w' R cap y (i.drop n.toNat) o := by
  simp only [RL.l, List.nodup_cons, List.mem_cons, List.not_mem_nil, or_false, not_or] at hn
  obtain ⟨⟨a1, a2⟩, a3, -⟩ := hn
  refine (rpop_any R.i cap (min n.toNat (str i).size) n (str i) s (str (i.drop n.toNat)) w h.fi rfl ?_ ?_).mono ?_
  · rw [str_pre, str_toList, str_size, take_min]; exact hs
  · rw [str_post, str_size, drop_min]
  · rintro e w' ⟨rfl, hf, hk⟩
    exact ⟨rfl, ⟨h.head.keeps hk (by simpa using a1), hf, h.fo.keeps hk (by simpa using fun e => a3 e.symm), h.kp.trans (hk.mono (by simp))⟩⟩
theorem RMid.pushI (h : RMid w0 w R cap y i o) (hn : R.l.Nodup) (hc : cap ≤ 4096) (hi : i.length ≤ cap) (s : ByteArray) (hsz : s.size ≤ 1000000) (k : Nat) (hk : min s.size (cap - i.length) = k) :
    Calls Tryz.prog 55 #[.pointer (some ⟨R.i, 0, none⟩), .string s] w fun e w' => e = .returned (.int .i64 k) ∧ RMid w0 w' R cap y (i ++ s.data.toList.take k) o := by
  simp only [RL.l, List.nodup_cons, List.mem_cons, List.not_mem_nil, or_false, not_or] at hn
  obtain ⟨⟨a1, a2⟩, a3, -⟩ := hn
  refine (rpush_any R.i cap k s (str i) _ (str (i ++ s.data.toList.take k)) w h.fi (by rwa [str_size]) hc hsz (by rwa [str_size]) rfl (by rw [str_pre, str_cat])).mono ?_
  rintro e w' ⟨rfl, hf, hk⟩
  exact ⟨rfl, ⟨h.head.keeps hk (by simpa using a1), hf, h.fo.keeps hk (by simpa using fun e => a3 e.symm), h.kp.trans (hk.mono (by simp))⟩⟩
theorem RMid.pushO (h : RMid w0 w R cap y i o) (hn : R.l.Nodup) (hc : cap ≤ 4096) (hi : o.length ≤ cap) (s : ByteArray) (hsz : s.size ≤ 1000000) (k : Nat) (hk : min s.size (cap - o.length) = k) :
    Calls Tryz.prog 55 #[.pointer (some ⟨R.o, 0, none⟩), .string s] w fun e w' => e = .returned (.int .i64 k) ∧ RMid w0 w' R cap y i (o ++ s.data.toList.take k) := by
  simp only [RL.l, List.nodup_cons, List.mem_cons, List.not_mem_nil, or_false, not_or] at hn
  obtain ⟨⟨a1, a2⟩, a3, -⟩ := hn
  refine (rpush_any R.o cap k s (str o) _ (str (o ++ s.data.toList.take k)) w h.fo (by rwa [str_size]) hc hsz (by rwa [str_size]) rfl (by rw [str_pre, str_cat])).mono ?_
  rintro e w' ⟨rfl, hf, hk⟩
  exact ⟨rfl, ⟨h.head.keeps hk (by simpa using a2), h.fi.keeps hk (by simpa using a3), hf, h.kp.trans (hk.mono (by simp))⟩⟩
end

/-- The last store of Feed, Move, Drain. -/
theorem RMid.st {w0 w : World} {R : RL} {cap : Nat} {y : Wy} {i o : List UInt8} (hm : RMid w0 w R cap y i o) (j : Nat) (v : Value) : Keeps [R.b] w (w.setCell ⟨R.b, j, none⟩ v).drew :=
  ((Keeps.refl [R.b] w).setCell (p := ⟨R.b, j, none⟩) (.inl (by simp)) _).drew

theorem RMid.drained {w0 w : World} {T : RT} {cap : Nat} {t : Tu} {side n : Int} (hm : RMid w0 w (T.wl side) cap (t.at_ side) (t.at_ side).i ((t.at_ side).o.drop n.toNat)) (h : RtAt w0 T cap t) (s : ByteArray) (hs : str ((t.at_ side).o.take n.toNat) = s) :
    RtAt (w.setCell ⟨(T.wl side).b, 6, none⟩ (.int .i64 (((t.at_ side).d : Int) + (s.size : Int)))).drew T cap (t.set side ((t.at_ side).drain n)) ∧ Keeps T.l w0 (w.setCell ⟨(T.wl side).b, 6, none⟩ (.int .i64 (((t.at_ side).d : Int) + (s.size : Int)))).drew := by
  have hd := ((blk7_set hm.head).2.2.1 (.int .i64 (((t.at_ side).d : Int) + (s.size : Int)))).drew
  have he : ((t.at_ side).d : Int) + (s.size : Int) = (((t.at_ side).drain n).d : Int) := by rw [← hs, str_size]; simp only [Wy.drain]; omega
  obtain ⟨z1, z2⟩ := hm.fin (h.way side) ((t.at_ side).drain n) (by rw [← he]; exact hd) (hm.st 6 _) rfl rfl ((h.way side).ok.drain n)
  exact h.setW side z1 z2 (h.ok.drain side n)
theorem RMid.fed {w0 w : World} {T : RT} {cap : Nat} {t : Tu} {side : Int} {s : List UInt8} (k : Nat) (hk : (t.at_ side).n cap s = k) (hm : RMid w0 w (T.wl side) cap (t.at_ side) ((t.at_ side).i ++ s.take k) (t.at_ side).o) (h : RtAt w0 T cap t) (ho : openB t.st side = true) :
    RtAt (w.setCell ⟨(T.wl side).b, 4, none⟩ (.int .i64 (((t.at_ side).f : Int) + (k : Int)))).drew T cap (t.set side ((t.at_ side).feed cap s)) ∧ Keeps T.l w0 (w.setCell ⟨(T.wl side).b, 4, none⟩ (.int .i64 (((t.at_ side).f : Int) + (k : Int)))).drew := by
  have hd := ((blk7_set hm.head).1 (.int .i64 (((t.at_ side).f : Int) + (k : Int)))).drew
  have he : ((t.at_ side).f : Int) + (k : Int) = (((t.at_ side).feed cap s).f : Int) := by simp only [Wy.feed, hk]; omega
  obtain ⟨z1, z2⟩ := hm.fin (h.way side) ((t.at_ side).feed cap s) (by rw [← he]; exact hd) (hm.st 4 _) (by simp only [Wy.feed, hk]) rfl ((h.way side).ok.feed s)
  exact h.setW side z1 z2 (h.ok.feed (h.way side).ok s ho)

set_option maxHeartbeats 1000000 in
theorem vDrain_ok (T : RT) (cap : Nat) (t t' : Tu) (side n : Int) (q : List UInt8) (r : Int) (hr : t.drain side n = (q, r, t')) (w : World) (h : RtAt w T cap t) :
    Calls Tryz.prog 27 #[.pointer (some ⟨T.b, 0, none⟩), .int .i64 side, .int .i64 n] w fun e w' => e = .returned (.tuple #[.string (str q), .int .i64 r]) ∧ RtAt w' T cap t' ∧ Keeps T.l w w' := by
  unfold Tu.drain at hr
  cases hs : sideB side with
  | false =>
    rw [hs, if_neg (by simp)] at hr
    obtain ⟨⟨rfl, rfl⟩, rfl⟩ := hr170 hr
    have HS := Lib.hid (vside_any side false hs)
    have H := Lib.hid h
    clear hr hs h
    go_enter Tryz.func27, Tryz.ntmps27
    go_wp2_with (fail)
    refine (HS.out _).mono ?_
    rintro e w1 ⟨rfl, rfl⟩
    go_wp2
    go_ret2
    exact ⟨rfl, H.out, Keeps.refl _ _⟩
  | true =>
    rw [hs, if_pos rfl] at hr
    obtain ⟨rfl, rfl, rfl⟩ := hr3 hr
    have hs' : side = 0 ∨ side = 1 := by simpa [sideB] using hs
    have HS := Lib.hid (vside_any side true hs)
    obtain ⟨s, hst⟩ : ∃ s, str ((t.at_ side).o.take n.toNat) = s := ⟨_, rfl⟩
    rw [hst]
    have hw := h.way side
    have k0 : w.cell? ⟨T.b, 1, none⟩ = some (.pointer (some ⟨(T.wl 0).b, 0, none⟩)) := h.c1
    have k1 : w.cell? ⟨T.b, 2, none⟩ = some (.pointer (some ⟨(T.wl 1).b, 0, none⟩)) := h.c2
    have q1 := hw.c1
    have HP := Lib.hid (hw.mid.popO hw.nd n s hst)
    have HO := Lib.hid (h.ok.drain side n)
    have H := Lib.hid h
    have hsz : (t.at_ side).d + s.size ≤ 1000000000000 := by
      have := hw.ok.d
      have := okC_le hw.ok.c
      rw [← hst, str_size, List.length_take]
      omega
    have hwr : IntKind.i64.wrap (((t.at_ side).d : Int) + (s.size : Int)) = ((t.at_ side).d : Int) + (s.size : Int) := IntWalk.i64_in _ (by omega)
    have HST := Lib.hid hst
    clear hr hs h hw hst hsz
    rcases hs' with rfl | rfl
    all_goals
      go_enter Tryz.func27, Tryz.ntmps27
      go_wp2_with (fail)
      refine (HS.out _).mono ?_
      rintro e w1 ⟨rfl, rfl⟩
      go_wp2_with (fail)
      refine HP.out.mono ?_
      rintro e w1 ⟨rfl, hm⟩
      obtain ⟨e0, e1⟩ := hm.heads H.out
      have d6 := hm.head.cell 6
      have f6 := hm.head.frozen 6
      simp only [List.getElem?_toArray, List.getElem?_cons_zero, List.getElem?_cons_succ] at d6
      have HM := Lib.hid hm
      clear hm k0 k1 q1
      go_wp2_with (fail)
      go_region
      all_goals go_wp2
      all_goals go_ret2
      all_goals
        obtain ⟨z3, z4⟩ := HM.out.drained H.out s HST.out
        exact ⟨rfl, z3, z4⟩

set_option maxHeartbeats 1000000 in
theorem vFeed_open (T : RT) (cap : Nat) (t : Tu) (side : Int) (hs : side = 0 ∨ side = 1) (s : ByteArray) (hsz : s.size ≤ 1000000) (k : Nat) (hk : (t.at_ side).n cap s.data.toList = k) (ho : openB t.st side = true) (w : World) (h : RtAt w T cap t) :
    Calls Tryz.prog 25 #[.pointer (some ⟨T.b, 0, none⟩), .int .i64 side, .string s] w fun e w' => e = .returned (.tuple #[.int .i64 k, .int .i64 0]) ∧ RtAt w' T cap (t.set side ((t.at_ side).feed cap s.data.toList)) ∧ Keeps T.l w w' := by
  have hsb : sideB side = true := by simpa [sideB] using hs
  have HS := Lib.hid (vside_any side true hsb)
  have hw := h.way side
  have c0 := h.c0
  have k0 : w.cell? ⟨T.b, 1, none⟩ = some (.pointer (some ⟨(T.wl 0).b, 0, none⟩)) := h.c1
  have k1 : w.cell? ⟨T.b, 2, none⟩ = some (.pointer (some ⟨(T.wl 1).b, 0, none⟩)) := h.c2
  have q0 := hw.c0
  have hsl : s.data.toList.length = s.size := by cases s; rfl
  have HP := Lib.hid (hw.mid.pushI hw.nd hw.cp hw.ok.i s hsz k (by rw [← hk]; unfold Wy.n; rw [hsl]))
  have H := Lib.hid h
  have hkn := ((t.at_ side).n_le cap s.data.toList).2
  have hcp := hw.cp
  have hsz : (t.at_ side).f + k ≤ 2000000000000 := by
    have := hw.ok.f'
    have := hw.ok.i
    have := okC_le hw.ok.c
    omega
  have hwr : IntKind.i64.wrap (((t.at_ side).f : Int) + (k : Int)) = ((t.at_ side).f : Int) + (k : Int) := IntWalk.i64_in _ (by omega)
  have HKK := Lib.hid hk
  have HOB := Lib.hid ho
  have hin := fun b hb => rin_any (t.st : Int) b hb w
  have hout := fun b hb => rout_any (t.st : Int) b hb w
  unfold openB at ho
  clear hsb h hw hsz hkn hcp hk hsl
  rcases hs with rfl | rfl
  · have HI := Lib.hid (hin true (by rw [if_pos rfl] at ho; simp at ho ⊢; omega))
    clear hin hout ho
    go_enter Tryz.func25, Tryz.ntmps25
    go_wp2_with (fail)
    refine (HS.out _).mono ?_
    rintro e w1 ⟨rfl, rfl⟩
    go_wp2_with (fail)
    refine HI.out.mono ?_
    rintro e w1 ⟨rfl, rfl⟩
    go_wp2_with (fail)
    refine HP.out.mono ?_
    rintro e w1 ⟨rfl, hm⟩
    obtain ⟨e0, e1⟩ := hm.heads H.out
    have d4 := hm.head.cell 4
    have f4 := hm.head.frozen 4
    simp only [List.getElem?_toArray, List.getElem?_cons_zero, List.getElem?_cons_succ] at d4
    have HM := Lib.hid hm
    clear hm k0 k1 q0 c0
    go_wp2_with (fail)
    go_region
    all_goals go_wp2
    all_goals go_ret2
    all_goals
      obtain ⟨z3, z4⟩ := HM.out.fed k HKK.out H.out HOB.out
      exact ⟨rfl, z3, z4⟩
  · have HI := Lib.hid (hout true (by rw [if_neg (by omega)] at ho; simp at ho ⊢; omega))
    clear hin hout ho
    go_enter Tryz.func25, Tryz.ntmps25
    go_wp2_with (fail)
    refine (HS.out _).mono ?_
    rintro e w1 ⟨rfl, rfl⟩
    go_wp2_with (fail)
    refine HI.out.mono ?_
    rintro e w1 ⟨rfl, rfl⟩
    go_wp2_with (fail)
    refine HP.out.mono ?_
    rintro e w1 ⟨rfl, hm⟩
    obtain ⟨e0, e1⟩ := hm.heads H.out
    have d4 := hm.head.cell 4
    have f4 := hm.head.frozen 4
    simp only [List.getElem?_toArray, List.getElem?_cons_zero, List.getElem?_cons_succ] at d4
    have HM := Lib.hid hm
    clear hm k0 k1 q0 c0
    go_wp2_with (fail)
    go_region
    all_goals go_wp2
    all_goals go_ret2
    all_goals
      obtain ⟨z3, z4⟩ := HM.out.fed k HKK.out H.out HOB.out
      exact ⟨rfl, z3, z4⟩

theorem vFeed_shut (T : RT) (cap : Nat) (t : Tu) (side : Int) (hs : side = 0 ∨ side = 1) (s : ByteArray) (ho : openB t.st side = false) (w : World) (h : RtAt w T cap t) :
    Calls Tryz.prog 25 #[.pointer (some ⟨T.b, 0, none⟩), .int .i64 side, .string s] w fun e w' => e = .returned (.tuple #[.int .i64 0, .int .i64 171]) ∧ RtAt w' T cap t ∧ Keeps T.l w w' := by
  have hsb : sideB side = true := by simpa [sideB] using hs
  have HS := Lib.hid (vside_any side true hsb)
  have c0 := h.c0
  have H := Lib.hid h
  have hin := fun b hb => rin_any (t.st : Int) b hb w
  have hout := fun b hb => rout_any (t.st : Int) b hb w
  unfold openB at ho
  clear hsb h
  rcases hs with rfl | rfl
  · have HI := Lib.hid (hin false (by rw [if_pos rfl] at ho; simp at ho ⊢; omega))
    clear hin hout ho
    go_enter Tryz.func25, Tryz.ntmps25
    go_wp2_with (fail)
    refine (HS.out _).mono ?_
    rintro e w1 ⟨rfl, rfl⟩
    go_wp2_with (fail)
    refine HI.out.mono ?_
    rintro e w1 ⟨rfl, rfl⟩
    go_wp2
    go_ret2
    exact ⟨rfl, H.out, Keeps.refl _ _⟩
  · have HI := Lib.hid (hout false (by rw [if_neg (by omega)] at ho; simp at ho ⊢; omega))
    clear hin hout ho
    go_enter Tryz.func25, Tryz.ntmps25
    go_wp2_with (fail)
    refine (HS.out _).mono ?_
    rintro e w1 ⟨rfl, rfl⟩
    go_wp2_with (fail)
    refine HI.out.mono ?_
    rintro e w1 ⟨rfl, rfl⟩
    go_wp2
    go_ret2
    exact ⟨rfl, H.out, Keeps.refl _ _⟩

theorem vFeed_ok (T : RT) (cap : Nat) (t t' : Tu) (side : Int) (s : ByteArray) (hsz : s.size ≤ 1000000) (n : Nat) (r : Int) (hr : t.feed cap side s.data.toList = (n, r, t')) (w : World) (h : RtAt w T cap t) :
    Calls Tryz.prog 25 #[.pointer (some ⟨T.b, 0, none⟩), .int .i64 side, .string s] w fun e w' => e = .returned (.tuple #[.int .i64 n, .int .i64 r]) ∧ RtAt w' T cap t' ∧ Keeps T.l w w' := by
  unfold Tu.feed at hr
  cases hs : sideB side with
  | false =>
    rw [hs, if_neg (by simp)] at hr
    obtain ⟨⟨rfl, rfl⟩, rfl⟩ := hr170 hr
    have HS := Lib.hid (vside_any side false hs)
    have H := Lib.hid h
    clear hr hs h
    go_enter Tryz.func25, Tryz.ntmps25
    go_wp2_with (fail)
    refine (HS.out _).mono ?_
    rintro e w1 ⟨rfl, rfl⟩
    go_wp2
    go_ret2
    exact ⟨rfl, H.out, Keeps.refl _ _⟩
  | true =>
    rw [hs, if_pos rfl] at hr
    have hs' : side = 0 ∨ side = 1 := by simpa [sideB] using hs
    cases ho : openB t.st side with
    | false =>
      rw [ho, if_neg (by simp)] at hr
      obtain ⟨rfl, rfl, rfl⟩ := hr3 hr
      exact vFeed_shut T cap t side hs' s ho w h
    | true =>
      rw [ho, if_pos rfl] at hr
      obtain ⟨rfl, rfl, rfl⟩ := hr3 hr
      exact vFeed_open T cap t side hs' s hsz _ rfl ho w h
end Go.Proofs.YtollcbacpoohlaaGreatDoor
