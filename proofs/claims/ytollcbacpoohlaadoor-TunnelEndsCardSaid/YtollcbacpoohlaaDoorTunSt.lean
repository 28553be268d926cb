/- The walk of TunnelStops. Printed by gen_tunlaws.py. -/
import Derived.Test.YtollcbacpoohlaaDoorTunX
namespace Go.Proofs.YtollcbacpoohlaaDoor
open Go.RowKit

theorem uState_eq (L : TL) (cap : Nat) (t : Tu) (z : Int) (hz : (t.st : Int) = z) (w : World) (h : TuAt w L cap t) :
    Calls Tryd.prog 18 #[.pointer (some ⟨L.b, 0, none⟩)] w fun e w' => e = .returned (.int .i64 z) ∧ w = w' := by
  subst hz; exact uState_any L cap t w h

set_option maxRecDepth 100000 in
theorem stops_bad (n : Int) (v u : Value) (w : World) (hE : Et w) (h : n < 1 ∨ 4096 < n) :
    Calls Tryd.prog 7 #[.int .i64 n, v, u] w fun e w' => e = .returned (.bool true) ∧ Keeps [] w w' := by
  have HE0 := Lib.hid hE
  have H := Lib.hid h
  clear hE h
  go_enter Tryd.func7, Tryd.ntmps7
  go_wp2_with (fail)
  refine (shown_any _ HE0.out).mono ?_
  rintro e w1 ⟨rfl, hk⟩
  have HK1 := Lib.hid hk
  have HE1 := Lib.hid (HE0.out.keeps hk (by simp))
  clear hk
  go_wp2_with (fail)
  refine (made_bad n v _ H.out).mono ?_
  rintro e w2 ⟨rfl, hk⟩
  have HK2 := Lib.hid (HK1.out.trans hk)
  have HE2 := Lib.hid (HE1.out.keeps hk (by simp))
  clear hk
  go_wp2
  go_ret
  exact ⟨rfl, HK2.out⟩

set_option maxRecDepth 100000 in
set_option maxHeartbeats 4000000 in
theorem stops_good (cap : Nat) (a : Option Addr) (c : Nat) (xs : List Op1) (b : Option Addr) (d : Nat) (zs : List Op1) (w : World) (hE : Et w) (h1 : 1 ≤ cap) (h2 : cap ≤ 4096) (hx : OpsArg w a xs) (hz : OpsArg w b zs) :
    Calls Tryd.prog 7 #[.int .i64 cap, .slice a xs.length c, .slice b zs.length d] w fun e w' => e = .returned (.bool true) ∧ Keeps [] w w' := by
  have HE0 := Lib.hid hE
  have HX0 := Lib.hid hx
  have HZ := Lib.hid hz
  obtain ⟨tm, htm⟩ : ∃ tm, upT.run cap (cutOps xs) = tm := ⟨_, rfl⟩
  have HTM := Lib.hid htm
  obtain ⟨n0, t0, ht0⟩ : ∃ n0 t0, tm.stop = (n0, t0) := ⟨_, _, rfl⟩
  have HST0 : Hid (Stopped tm t0) := Lib.hid (by have := stop_stopped tm; rw [ht0] at this; exact this)
  have HT0 := Lib.hid ht0
  clear hE hx hz htm ht0
  have hyl := cutOps_length zs
  have hys := cutOps_size zs
  obtain ⟨ys, hye⟩ : ∃ ys, cutOps zs = ys := ⟨_, rfl⟩
  rw [hye] at hyl hys
  have HYS := Lib.hid hys
  have HYE := Lib.hid hye
  clear hys hye

  go_enter Tryd.func7, Tryd.ntmps7
  go_wp2_with (fail)
  refine (shown_any _ HE0.out).mono ?_
  rintro e w1 ⟨rfl, hk⟩
  have HK1 := Lib.hid hk
  have HE1 := Lib.hid (HE0.out.keeps hk (by simp))
  have HX1 := Lib.hid (HX0.out.keeps hk (by simp))
  clear hk
  go_wp2_with (fail)
  refine (made_ok cap a c xs _ HE1.out h1 h2 HX1.out).mono ?_
  rintro e w2 ⟨L, rfl, ht, hk, hlo⟩
  have HK2 := Lib.hid (HK1.out.trans hk)
  have HE2 := Lib.hid (HE1.out.keeps hk (by simp))
  have HT2 := Lib.hid (HTM.out ▸ ht)
  have HLO : Hid (∀ k ∈ L.l, w.heap.size ≤ k) := (fun k hk => Nat.le_trans HK1.out.size (hlo k hk) : ∀ k ∈ L.l, w.heap.size ≤ k)
  clear ht hk hlo
  go_wp2_with (fail)
  refine (uStop_any L cap tm t0 n0 HT0.out _ HT2.out).mono ?_
  rintro e w3 ⟨rfl, ht, hk⟩
  have HT3 := Lib.hid ht
  have HK3 := Lib.hid (HK2.out.trans' hk (fun i hi => .inr (HLO.out i hi)))
  have HE3 := Lib.hid (HE2.out.keeps hk HT2.out.nz)
  clear ht hk
  go_wp2_with (fail)
  refine (uCounts_any L cap t0 0 t0.a.f t0.a.s t0.a.d rfl _ HT3.out).mono ?_
  rintro e w4 ⟨rfl, hk⟩
  have HK4 := Lib.hid (HK3.out.trans hk)
  have HE4 := Lib.hid (HE3.out.keeps hk (by simp))
  have HT4 := Lib.hid (HT3.out.keep hk)
  clear hk
  go_wp2_with (fail)
  refine (uCounts_any L cap t0 1 t0.b.f t0.b.s t0.b.d rfl _ HT4.out).mono ?_
  rintro e w5 ⟨rfl, hk⟩
  have HK5 := Lib.hid (HK4.out.trans hk)
  have HE5 := Lib.hid (HE4.out.keeps hk (by simp))
  have HT5 := Lib.hid (HT4.out.keep hk)
  clear hk
  go_wp2_with (fail)
  refine (cutops_g _ b d zs (HZ.out.keeps HK5.out (by simp))).mono ?_
  rintro e w6 ⟨a', c', g, rfl, hin, hgl, hk⟩
  have HK6 := Lib.hid (HK5.out.trans hk)
  have HE6 := Lib.hid (HE5.out.keeps hk (by simp))
  have HT6 := Lib.hid (HT5.out.keep hk)
  have hye := HYE.out
  rw [hye] at hin
  rw [hye]
  clear hye
  have HIN := Lib.hid hin
  have HGL : Hid (g ∉ L.l) := (fun hm => by have := HT5.out.lt g hm; omega : g ∉ L.l)
  clear hk hin hgl
  go_wp2
  go_loopw [16] (fun i wr => ∃ k : Nat, ∃ t : Tu, i = .int .i64 k ∧ k ≤ ys.length ∧ Hid (TuAt wr L cap t ∧ Stopped t0 t) ∧ Hid (Keeps L.l w6 wr)) (fun i _ => ys.length - (intOf i).toNat)
  case atStart => exact ⟨0, t0, rfl, Nat.zero_le _, (⟨HT6.out, ⟨HST0.out.st, HST0.out.ai, HST0.out.bi, rfl, rfl, rfl, rfl⟩⟩ : TuAt w6 L cap t0 ∧ Stopped t0 t0), (Keeps.refl _ _ : Keeps L.l w6 w6)⟩
  case round =>
    obtain ⟨k, t, rfl, hk, HT, HK⟩ := hrel
    by_cases hlt : k < ys.length
    · have hin := HIN.out.keeps HK.out HGL.out
      obtain ⟨x, rfl, hx, d0, d1, d2, d3⟩ := hin.at_ hlt
      have i1 : (0 : Int) ≤ (k : Int) := by omega
      have i2 : (k : Int) < (ys.length : Int) := by omega
      obtain ⟨hk', hx'⟩ := List.getElem?_eq_some_iff.1 hx
      have hsz : x.s.size ≤ 50 := HYS.out x (by rw [← hx']; exact List.getElem_mem _)
      have htk : ys.take (k + 1) = ys.take k ++ [x] := by rw [List.take_succ_eq_append_getElem hlt, hx']
      obtain ⟨n, q, r, t', hact⟩ : ∃ n q r t', t.act cap x = ((n, q, r), t') := ⟨_, _, _, _, rfl⟩
      have hst : Stopped t0 t' := by have := HT.out.2.act cap x; rw [hact] at this; exact this
      have hd := do_any L cap t t' x (by omega) n q r hact wr (HE6.out.keeps HK.out HT6.out.nz) HT.out.1
      have HD := Lib.hid hd
      have HS := Lib.hid hst
      clear hin hx hk' hx' htk hact hst hd hsz
      go_wp2_with (fail)
      refine HD.out.mono ?_
      rintro e w9 ⟨rfl, ht, hk⟩
      have HT9 : Hid (TuAt w9 L cap t' ∧ Stopped t0 t') := (⟨ht, HS.out⟩ : TuAt w9 L cap t' ∧ Stopped t0 t')
      have HK9 := Lib.hid (HK.out.trans hk)
      clear ht hk d0 d1 d2 d3 HD
      go_wp2
      go_roundw
      case rel => exact ⟨k + 1, t', by go_num, by omega, HT9, HK9⟩
      case measure => simp [intOf]; omega
    · obtain rfl : k = ys.length := by omega
      have hge : ¬ (ys.length : Int) < (ys.length : Int) := by omega
      have hcn : ∀ side : Int, ∃ f s d, t.counts side = (f, s, d) := fun _ => ⟨_, _, _, rfl⟩
      clear hcn
      have ea : t.counts 0 = (t0.a.f, t0.a.s, t.a.d) := by show (t.a.f, t.a.s, t.a.d) = _; rw [HT.out.2.af, HT.out.2.asp]
      have eb : t.counts 1 = (t0.b.f, t0.b.s, t.b.d) := by show (t.b.f, t.b.s, t.b.d) = _; rw [HT.out.2.bf, HT.out.2.bsp]
      have EA := Lib.hid ea
      have EB := Lib.hid eb
      have da : t.a.d ≤ t0.a.s := by have := HT.out.1.a.ok.d; have := HT.out.2.asp; omega
      have db : t.b.d ≤ t0.b.s := by have := HT.out.1.b.ok.d; have := HT.out.2.bsp; omega
      have hst : t.st = 5 ∨ t.st = 6 := by have := HT.out.2.st; have := HT.out.1.ok.st; omega
      have HST := Lib.hid hst
      clear ea eb hst
      go_wp2_with (fail)
      refine (uCounts_any L cap t 0 _ _ _ EA.out _ HT.out.1).mono ?_
      rintro e w7 ⟨rfl, hk⟩
      have HT7 := Lib.hid (HT.out.1.keep hk)
      have HK7 := Lib.hid (HK.out.trans (hk.mono (by simp)))
      clear hk
      go_wp2_with (fail)
      refine (uCounts_any L cap t 1 _ _ _ EB.out _ HT7.out).mono ?_
      rintro e w8 ⟨rfl, hk⟩
      have HT8 := Lib.hid (HT7.out.keep hk)
      have HK8 := Lib.hid (HK7.out.trans (hk.mono (by simp)))
      clear hk
      rcases HST.out with h5 | h6
      · have HZ5 : Hid ((t.st : Int) = 5) := (by omega : (t.st : Int) = 5)
        clear h5
        go_wp2_with (fail)
        refine (uState_eq L cap t 5 HZ5.out _ HT8.out).mono ?_
        rintro e w10 ⟨rfl, rfl⟩
        go_wp2
        go_ret
        exact ⟨rfl, HK6.out.trans' HK8.out (fun i hi => .inr (HLO.out i hi))⟩
      · have HZ6 : Hid ((t.st : Int) = 6) := (by omega : (t.st : Int) = 6)
        clear h6
        go_wp2_with (fail)
        refine (uState_eq L cap t 6 HZ6.out _ HT8.out).mono ?_
        rintro e w10 ⟨rfl, rfl⟩
        go_wp2_with (fail)
        refine (uState_eq L cap t 6 HZ6.out _ HT8.out).mono ?_
        rintro e w10 ⟨rfl, rfl⟩
        go_wp2
        go_ret
        exact ⟨rfl, HK6.out.trans' HK8.out (fun i hi => .inr (HLO.out i hi))⟩

theorem stopslaw_any (n : Int) (a : Option Addr) (xs : List Op1) (c : Nat) (b : Option Addr) (zs : List Op1) (d : Nat) (w : World) (hx : OpsArg w a xs) (hz : OpsArg w b zs) (hE : Et w) :
    Calls Tryd.prog 7 #[.int .i64 n, .slice a xs.length c, .slice b zs.length d] w fun e w' => e = .returned (.bool true) ∧ Keeps [] w w' := by
  by_cases hn : n < 1 ∨ 4096 < n
  · exact stops_bad n _ _ w hE hn
  · obtain ⟨cap, rfl⟩ : ∃ cap : Nat, n = cap := ⟨n.toNat, by omega⟩
    exact stops_good cap a c xs b d zs w hE (by omega) (by omega) hx hz
end Go.Proofs.YtollcbacpoohlaaDoor
