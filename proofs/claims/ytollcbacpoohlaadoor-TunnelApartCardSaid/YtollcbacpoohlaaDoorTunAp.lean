/- The walk of TunnelApart. -/
import Derived.Test.YtollcbacpoohlaaDoorTunX
namespace Go.Proofs.YtollcbacpoohlaaDoor
open Go.RowKit

set_option maxRecDepth 100000 in
theorem apart_bad (n : Int) (v u : Value) (side : Int) (w : World) (hE : Et w) (h : n < 1 ∨ 4096 < n) :
    Calls Tryd.prog 8 #[.int .i64 n, v, u, .int .i64 side] w fun e w' => e = .returned (.bool true) ∧ Keeps [] w w' := by
  have HE := Lib.hid hE
  have H := Lib.hid h
  clear hE h
  go_enter Tryd.func8, Tryd.ntmps8
  go_wp2_with (fail)
  refine (shown_any _ HE.out).mono ?_
  rintro e w1 ⟨rfl, hk⟩
  have HK1 := Lib.hid hk
  clear hk
  go_wp2_with (fail)
  refine (made_bad n v _ H.out).mono ?_
  rintro e w2 ⟨rfl, hk⟩
  have HK2 := Lib.hid (HK1.out.trans hk)
  clear hk
  go_wp2
  go_ret
  exact ⟨rfl, HK2.out⟩

set_option maxRecDepth 100000 in
set_option maxHeartbeats 1000000 in
theorem apart_side (cap : Nat) (a : Option Addr) (c : Nat) (xs : List Op1) (u : Value) (side : Int) (hs : side < 0 ∨ 1 < side) (w : World) (hE : Et w) (h1 : 1 ≤ cap) (h2 : cap ≤ 4096) (hx : OpsArg w a xs) :
    Calls Tryd.prog 8 #[.int .i64 cap, .slice a xs.length c, u, .int .i64 side] w fun e w' => e = .returned (.bool true) ∧ Keeps [] w w' := by
  have HE := Lib.hid hE
  have HX := Lib.hid hx
  clear hE hx
  go_enter Tryd.func8, Tryd.ntmps8
  go_wp2_with (fail)
  refine (shown_any _ HE.out).mono ?_
  rintro e w1 ⟨rfl, hk⟩
  have HE1 := Lib.hid (HE.out.keeps hk (by simp))
  have HX1 := Lib.hid (HX.out.keeps hk (by simp))
  have HK1 := Lib.hid hk
  clear hk
  go_wp2_with (fail)
  refine (made_ok cap a c xs _ HE1.out h1 h2 HX1.out).mono ?_
  rintro e w2 ⟨L, rfl, -, hk, -⟩
  have HK2 := Lib.hid (HK1.out.trans hk)
  clear hk
  rcases hs with hs | hs
  · go_wp2
    go_ret
    exact ⟨rfl, HK2.out⟩
  · have hs' : ¬ side < 0 := by omega
    go_wp2
    go_ret
    exact ⟨rfl, HK2.out⟩

set_option maxRecDepth 100000 in
set_option maxHeartbeats 4000000 in
theorem apart_good (cap : Nat) (a : Option Addr) (c : Nat) (xs : List Op1) (b : Option Addr) (d : Nat) (zs : List Op1) (side : Int) (hs0 : ¬ side < 0) (hs1 : ¬ 1 < side) (w : World) (hE : Et w) (h1 : 1 ≤ cap) (h2 : cap ≤ 4096) (hx : OpsArg w a xs) (hz : OpsArg w b zs) :
    Calls Tryd.prog 8 #[.int .i64 cap, .slice a xs.length c, .slice b zs.length d, .int .i64 side] w fun e w' => e = .returned (.bool true) ∧ Keeps [] w w' := by
  have hside : side = 0 ∨ side = 1 := by omega
  have HSD := Lib.hid hside
  have HE := Lib.hid hE
  have HX := Lib.hid hx
  have HZ := Lib.hid hz
  obtain ⟨t0, ht0⟩ : ∃ t0, upT.run cap (cutOps xs) = t0 := ⟨_, rfl⟩
  have HT0 := Lib.hid ht0
  have hyl := cutOps_length zs
  have hys := cutOps_size zs
  obtain ⟨ys, hye⟩ : ∃ ys, cutOps zs = ys := ⟨_, rfl⟩
  rw [hye] at hyl hys
  have HYS := Lib.hid hys
  have HYE := Lib.hid hye
  obtain ⟨f, s, r, hcn⟩ : ∃ f s r, t0.counts (1 - side) = (f, s, r) := ⟨_, _, _, rfl⟩
  have HCN := Lib.hid hcn
  clear hE hx hz hside ht0 hys hye hcn
  go_enter Tryd.func8, Tryd.ntmps8
  go_wp2_with (fail)
  refine (shown_any _ HE.out).mono ?_
  rintro e w1 ⟨rfl, hk⟩
  have HE1 := Lib.hid (HE.out.keeps hk (by simp))
  have HX1 := Lib.hid (HX.out.keeps hk (by simp))
  have HK1 := Lib.hid hk
  clear hk
  go_wp2_with (fail)
  refine (made_ok cap a c xs _ HE1.out h1 h2 HX1.out).mono ?_
  rintro e w2 ⟨L, rfl, ht, hk, hlo⟩
  have HT2 := Lib.hid (HT0.out ▸ ht)
  have HK2 := Lib.hid (HK1.out.trans hk)
  have HE2 := Lib.hid (HE1.out.keeps hk (by simp))
  have HLO : Hid (∀ k ∈ L.l, w.heap.size ≤ k) := (fun k hk => Nat.le_trans HK1.out.size (hlo k hk) : ∀ k ∈ L.l, w.heap.size ≤ k)
  clear ht hk hlo HX1 HX HE1
  go_wp2_with (fail)
  refine (uCounts_any L cap t0 (1 - side) f s r HCN.out _ HT2.out).mono ?_
  rintro e w3 ⟨rfl, hk⟩
  have HT3 := Lib.hid (HT2.out.keep hk)
  have HK3 := Lib.hid (HK2.out.trans hk)
  have HE3 := Lib.hid (HE2.out.keeps hk (by simp))
  clear hk HT2 HE2
  go_wp2_with (fail)
  refine (cutops_g _ b d zs (HZ.out.keeps HK3.out (by simp))).mono ?_
  rintro e w4 ⟨a', c', g, rfl, hin, hgl, hk⟩
  have hye := HYE.out
  rw [hye] at hin
  rw [hye]
  clear hye
  have HT4 := Lib.hid (HT3.out.keep hk)
  have HK4 := Lib.hid (HK3.out.trans hk)
  have HE4 := Lib.hid (HE3.out.keeps hk (by simp))
  have HIN := Lib.hid hin
  have HGL : Hid (g ∉ L.l) := (fun hm => by have := HT3.out.lt g hm; omega : g ∉ L.l)
  clear hk hin hgl HT3 HE3
  go_wp2
  go_loopw [15] (fun i wr => ∃ k : Nat, ∃ t : Tu, i = .int .i64 k ∧ k ≤ ys.length ∧ Hid (TuAt wr L cap t ∧ t.at_ (1 - side) = t0.at_ (1 - side)) ∧ Hid (Keeps L.l w4 wr)) (fun i _ => ys.length - (intOf i).toNat)
  case atStart => exact ⟨0, t0, rfl, Nat.zero_le _, (⟨HT4.out, rfl⟩ : TuAt w4 L cap t0 ∧ t0.at_ (1 - side) = t0.at_ (1 - side)), (Keeps.refl _ _ : Keeps L.l w4 w4)⟩
  case round =>
    obtain ⟨k, t, rfl, hk, HT, HK⟩ := hrel
    by_cases hlt : k < ys.length
    · have hin := HIN.out.keeps HK.out HGL.out
      obtain ⟨x, rfl, hx, d0, d1, d2, d3⟩ := hin.at_ hlt
      have i1 : (0 : Int) ≤ (k : Int) := by omega
      have i2 : (k : Int) < (ys.length : Int) := by omega
      obtain ⟨hk', hx'⟩ := List.getElem?_eq_some_iff.1 hx
      have hsz : x.s.size ≤ 1000000 := by have := HYS.out x (by rw [← hx']; exact List.getElem_mem _); omega
      have HSZ := Lib.hid hsz
      clear hin hx hk' hx' hsz
      by_cases hkd : 1 ≤ x.kind ∧ x.kind ≤ 4
      · obtain ⟨k1, k4⟩ := hkd
        obtain ⟨n, q, r', t', hact⟩ : ∃ n q r t', t.act cap { x with side := side } = ((n, q, r), t') := ⟨_, _, _, _, rfl⟩
        have hoth : t'.at_ (1 - side) = t0.at_ (1 - side) := by
          have := act_other cap t side HSD.out { x with side := side } rfl k1 k4
          rw [hact] at this
          exact this.trans HT.out.2
        have hd := fun W hE hT => do_any L cap t t' { x with side := side } HSZ.out n q r' hact W hE hT
        dsimp only at hd
        have HD := Lib.hid hd
        have HO := Lib.hid hoth
        clear hact hd hoth
        go_wp2_with (fail)
        have hka : Keeps [] wr (wr.alloc (.cells #[.int .i64 x.kind, .int .i64 side, .int .i64 x.n, .string x.s] 29)) := (Keeps.refl [] wr).alloc _
        refine (HD.out _ ((HE4.out.keeps HK.out HT4.out.nz).keeps hka (by simp)) (HT.out.1.keep hka)).mono ?_
        rintro e w7 ⟨rfl, ht, hk⟩
        have HT7 : Hid (TuAt w7 L cap t' ∧ t'.at_ (1 - side) = t0.at_ (1 - side)) := (⟨ht, HO.out⟩ : TuAt w7 L cap t' ∧ t'.at_ (1 - side) = t0.at_ (1 - side))
        have HK7 := Lib.hid ((HK.out.trans (hka.mono (by simp))).trans hk)
        clear ht hk hka d0 d1 d2 d3 HD
        go_wp2
        go_roundw
        case rel => exact ⟨k + 1, t', by go_num, by omega, HT7, HK7⟩
        case measure => simp [intOf]; omega
      · have hkd' : x.kind < 1 ∨ 4 < x.kind := by omega
        clear hkd
        have hka : Keeps [] wr (wr.alloc (.cells #[.int .i64 x.kind, .int .i64 side, .int .i64 x.n, .string x.s] 29)) := (Keeps.refl [] wr).alloc _
        have HT7 : Hid (TuAt _ L cap t ∧ t.at_ (1 - side) = t0.at_ (1 - side)) := Lib.hid ⟨HT.out.1.keep hka, HT.out.2⟩
        have HK7 := Lib.hid (HK.out.trans (hka.mono (by simp)))
        clear hka
        rcases hkd' with hkd | hkd
        · have hkd' : ¬ (1 : Int) ≤ x.kind := by omega
          go_wp2
          go_roundw
          case rel => exact ⟨k + 1, t, by go_num, by omega, HT7, HK7⟩
          case measure => simp [intOf]; omega
        · have hkd' : ¬ x.kind ≤ 4 := by omega
          have hkd1 : (1 : Int) ≤ x.kind := by omega
          go_wp2
          go_roundw
          case rel => exact ⟨k + 1, t, by go_num, by omega, HT7, HK7⟩
          case measure => simp [intOf]; omega
    · obtain rfl : k = ys.length := by omega
      have hge : ¬ (ys.length : Int) < (ys.length : Int) := by omega
      go_wp2_with (fail)
      refine (uCounts_any L cap t (1 - side) f s r ((counts_other HT.out.2).trans HCN.out) _ HT.out.1).mono ?_
      rintro e w7 ⟨rfl, hk⟩
      have HK7 := Lib.hid (HK.out.trans (hk.mono (by simp)))
      clear hk
      go_wp2
      go_ret
      exact ⟨rfl, HK4.out.trans' HK7.out (fun i hi => .inr (HLO.out i hi))⟩

theorem apartlaw_any (n : Int) (a : Option Addr) (xs : List Op1) (c : Nat) (b : Option Addr) (zs : List Op1) (d : Nat) (side : Int) (w : World) (hx : OpsArg w a xs) (hz : OpsArg w b zs) (hE : Et w) :
    Calls Tryd.prog 8 #[.int .i64 n, .slice a xs.length c, .slice b zs.length d, .int .i64 side] w fun e w' => e = .returned (.bool true) ∧ Keeps [] w w' := by
  by_cases hn : n < 1 ∨ 4096 < n
  · exact apart_bad n _ _ side w hE hn
  · obtain ⟨cap, rfl⟩ : ∃ cap : Nat, n = cap := ⟨n.toNat, by omega⟩
    by_cases hs : side < 0 ∨ 1 < side
    · exact apart_side cap a c xs _ side hs w hE (by omega) (by omega) hx
    · exact apart_good cap a c xs b d zs side (by omega) (by omega) w hE (by omega) (by omega) hx hz
end Go.Proofs.YtollcbacpoohlaaDoor
