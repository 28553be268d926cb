/- The walk of the statements' Made. -/
import Derived.Test.YtollcbacpoohlaaDoorTunU
namespace Go.Proofs.YtollcbacpoohlaaDoor
open Go.RowKit

/-- Behind some calls. -/
def Tu.run (cap : Nat) (t : Tu) (xs : List Op1) : Tu := xs.foldl (fun t x => (t.act cap x).2) t
theorem Tu.run_snoc (cap : Nat) (t : Tu) (xs : List Op1) (x : Op1) : t.run cap (xs ++ [x]) = ((t.run cap xs).act cap x).2 := by simp [Tu.run]
/-- A tunnel that is up, ten granted each way. -/
def upT : Tu := ⟨2, { Wy.zero with g := 10 }, { Wy.zero with g := 10 }⟩
def up1 : Tu := ⟨2, { Wy.zero with g := 10 }, Wy.zero⟩
theorem up_3 : sh2.grant 0 10 = (0, up1) := by rfl
theorem up_4 : up1.grant 1 10 = (0, upT) := by rfl

theorem made_bad (n : Int) (v : Value) (w : World) (h : n < 1 ∨ 4096 < n) :
    Calls Tryd.prog 10 #[.int .i64 n, v] w fun e w' => e = .returned (.tuple #[.pointer none, .bool false]) ∧ Keeps [] w w' := by
  have H := Lib.hid h
  clear h
  go_enter Tryd.func10, Tryd.ntmps10
  go_wp2_with (fail)
  refine (uNew_bad n _ H.out).mono ?_
  rintro e w1 ⟨rfl, hk⟩
  have HK := Lib.hid hk
  clear hk
  go_wp2
  go_ret2
  exact ⟨rfl, HK.out⟩

set_option maxRecDepth 100000 in
set_option maxHeartbeats 4000000 in
theorem made_ok (cap : Nat) (a : Option Addr) (c : Nat) (xs : List Op1) (w : World) (hE : Et w) (hc1 : 1 ≤ cap) (hc2 : cap ≤ 4096) (hx : OpsArg w a xs) :
    Calls Tryd.prog 10 #[.int .i64 cap, .slice a xs.length c] w fun e w' => ∃ L : TL, e = .returned (.tuple #[.pointer (some ⟨L.b, 0, none⟩), .bool true]) ∧ TuAt w' L cap (upT.run cap (cutOps xs)) ∧ Keeps [] w w' ∧ ∀ k ∈ L.l, w.heap.size ≤ k := by
  have HE0 := Lib.hid hE
  have HX := Lib.hid hx
  have hyl := cutOps_length xs
  have hys := cutOps_size xs
  obtain ⟨ys, hye⟩ : ∃ ys, cutOps xs = ys := ⟨_, rfl⟩
  rw [hye] at hyl hys
  rw [hye]
  have HYS := Lib.hid hys
  have HYE := Lib.hid hye
  clear hE hx hys hye
  go_enter Tryd.func10, Tryd.ntmps10
  go_wp2_with (fail)
  refine (uNew_ok cap _ hc1 hc2 HE0.out).mono ?_
  rintro e w1 ⟨L, rfl, ht, hk, hlo⟩
  have HT1 := Lib.hid ht
  have HK1 := Lib.hid hk
  have HE1 := Lib.hid (HE0.out.keeps hk (by simp))
  have HLO := Lib.hid hlo
  clear ht hk hlo
  go_wp2_with (fail)
  refine (uEvent_any L cap Tu.zero sh1 1 0 sh_1 _ HT1.out).mono ?_
  rintro e w2 ⟨rfl, ht, hk⟩
  have HT2 := Lib.hid ht
  have HK2 := Lib.hid (HK1.out.trans' hk (fun i hi => .inr (HLO.out i hi)))
  have HE2 := Lib.hid (HE1.out.keeps hk HT1.out.nz)
  clear ht hk
  go_wp2_with (fail)
  refine (uEvent_any L cap sh1 sh2 2 0 sh_2 _ HT2.out).mono ?_
  rintro e w3 ⟨rfl, ht, hk⟩
  have HT3 := Lib.hid ht
  have HK3 := Lib.hid (HK2.out.trans' hk (fun i hi => .inr (HLO.out i hi)))
  have HE3 := Lib.hid (HE2.out.keeps hk HT1.out.nz)
  clear ht hk
  go_wp2_with (fail)
  refine (uGrant_any L cap sh2 up1 0 10 0 up_3 _ HE3.out HT3.out).mono ?_
  rintro e w4 ⟨rfl, ht, hk⟩
  have HT4 := Lib.hid ht
  have HK4 := Lib.hid (HK3.out.trans' hk (fun i hi => .inr (HLO.out i hi)))
  have HE4 := Lib.hid (HE3.out.keeps hk HT1.out.nz)
  clear ht hk
  go_wp2_with (fail)
  refine (uGrant_any L cap up1 upT 1 10 0 up_4 _ HE4.out HT4.out).mono ?_
  rintro e w5 ⟨rfl, ht, hk⟩
  have HT5 := Lib.hid ht
  have HK5 := Lib.hid (HK4.out.trans' hk (fun i hi => .inr (HLO.out i hi)))
  have HE5 := Lib.hid (HE4.out.keeps hk HT1.out.nz)
  clear ht hk
  go_wp2_with (fail)
  refine (cutops_g _ a c xs (HX.out.keeps HK5.out (by simp))).mono ?_
  rintro e w6 ⟨a', c', g, rfl, hin, hgl, hk⟩
  have hye := HYE.out
  rw [hye] at hin
  rw [hye]
  clear hye
  have HT6 := Lib.hid (HT5.out.keep hk)
  have HK6 := Lib.hid (HK5.out.trans hk)
  have HE6 := Lib.hid (HE5.out.keeps hk (by simp))
  have HIN := Lib.hid hin
  have HGL : Hid (g ∉ L.l) := (fun hm => by have := HT5.out.lt g hm; omega : g ∉ L.l)
  clear hk hin hgl
  go_wp2
  go_loopw [8] (fun i wr => ∃ k : Nat, i = .int .i64 k ∧ k ≤ ys.length ∧ Hid (TuAt wr L cap (upT.run cap (ys.take k))) ∧ Hid (Keeps L.l w6 wr)) (fun i _ => ys.length - (intOf i).toNat)
  case atStart => exact ⟨0, rfl, Nat.zero_le _, HT6, (Keeps.refl _ _ : Keeps L.l w6 w6)⟩
  case round =>
    obtain ⟨k, rfl, hk, HT, HK⟩ := hrel
    by_cases hlt : k < ys.length
    · have hin := HIN.out.keeps HK.out HGL.out
      obtain ⟨x, rfl, hx, d0, d1, d2, d3⟩ := hin.at_ hlt
      have i1 : (0 : Int) ≤ (k : Int) := by omega
      have i2 : (k : Int) < (ys.length : Int) := by omega
      obtain ⟨hk', hx'⟩ := List.getElem?_eq_some_iff.1 hx
      have htk : ys.take (k + 1) = ys.take k ++ [x] := by rw [List.take_succ_eq_append_getElem hlt, hx']
      obtain ⟨n, q, r, t', hact⟩ : ∃ n q r t', (upT.run cap (ys.take k)).act cap x = ((n, q, r), t') := ⟨_, _, _, _, rfl⟩
      have hrun : upT.run cap (ys.take (k + 1)) = t' := by rw [htk, Tu.run_snoc, hact]
      have hd := do_any L cap _ t' x (by have := HYS.out x (by rw [← hx']; exact List.getElem_mem _); omega) n q r hact wr (HE6.out.keeps HK.out HT1.out.nz) HT.out
      have HD := Lib.hid hd
      have HR := Lib.hid hrun
      clear hin hx hk' hx' htk hact hrun hd
      go_wp2_with (fail)
      refine HD.out.mono ?_
      rintro e w7 ⟨rfl, ht, hk⟩
      have HT7 : Hid (TuAt w7 L cap (upT.run cap (ys.take (k + 1)))) := Lib.hid (HR.out ▸ ht)
      have HK7 := Lib.hid (HK.out.trans hk)
      clear ht hk d0 d1 d2 d3 HD
      go_wp2
      go_roundw
      case rel => exact ⟨k + 1, by go_num, by omega, HT7, HK7⟩
      case measure => simp [intOf]; omega
    · obtain rfl : k = ys.length := by omega
      rw [List.take_length] at HT
      have hge : ¬ (ys.length : Int) < (ys.length : Int) := by omega
      go_wp2
      go_ret2
      exact ⟨L, rfl, HT.out, HK6.out.trans' HK.out (fun i hi => .inr (HLO.out i hi)), HLO.out⟩
end Go.Proofs.YtollcbacpoohlaaDoor
