/- The walks of the statements' shown and Made. -/
import Derived.Test.YtollcbacpoohlaaGreatDoorTunO
namespace Go.Proofs.YtollcbacpoohlaaGreatDoor
open Go.RowKit

theorem uDrain_eq (L : TL) (cap : Nat) (t t' : Tu) (side n : Int) (q : List UInt8) (r : Int) (hr : t.drain side n = (q, r, t')) (qs : ByteArray) (hq : str q = qs) (w : World) (hE : Et w) (h : TuAt w L cap t) :
    Calls Tryz.prog 17 #[.pointer (some ⟨L.b, 0, none⟩), .int .i64 side, .int .i64 n] w fun e w' => e = .returned (.tuple #[.string qs, .int .i64 r]) ∧ TuAt w' L cap t' ∧ Keeps L.l w w' := by
  subst hq; exact uDrain_any L cap t t' side n q r hr w hE h

def sh1 : Tu := ⟨1, Wy.zero, Wy.zero⟩
def sh2 : Tu := ⟨2, Wy.zero, Wy.zero⟩
def sh3 : Tu := ⟨2, { Wy.zero with g := 3 }, Wy.zero⟩
def sh4 : Tu := ⟨2, ⟨[97, 98, 99, 100], [], 3, 0, 4, 0⟩, Wy.zero⟩
def sh5 : Tu := ⟨2, ⟨[100], [97, 98, 99], 3, 3, 4, 0⟩, Wy.zero⟩
def sh6 : Tu := ⟨2, ⟨[100], [], 3, 3, 4, 3⟩, Wy.zero⟩
def sh7 : Tu := ⟨6, ⟨[], [], 3, 3, 4, 3⟩, Wy.zero⟩
theorem sh_1 : Tu.zero.event 1 = (0, sh1) := by rfl
theorem sh_a : sh1.feed 4 0 (⟨#[97]⟩ : ByteArray).data.toList = (0, 171, sh1) := by rfl
theorem sh_2 : sh1.event 2 = (0, sh2) := by rfl
theorem sh_3 : sh2.grant 0 3 = (0, sh3) := by rfl
theorem sh_4 : sh3.feed 4 0 (⟨#[97, 98, 99, 100, 101, 102]⟩ : ByteArray).data.toList = (4, 0, sh4) := by rfl
theorem sh_5 : sh4.move 4 0 9 = (3, 0, sh5) := by rfl
theorem sh_6 : sh5.drain 0 9 = ([97, 98, 99], 0, sh6) := by rfl
theorem sh_7 : sh6.stop = (1, sh7) := by rfl
theorem sh_b : sh7.move 4 0 1 = (0, 171, sh7) := by rfl

set_option maxRecDepth 100000 in
set_option maxHeartbeats 4000000 in
theorem shown_any (w : World) (hE : Et w) :
    Calls Tryz.prog 4 #[] w fun e w' => e = .returned (.bool true) ∧ Keeps [] w w' := by
  have HE0 := Lib.hid hE
  clear hE
  go_enter Tryz.func4, Tryz.ntmps4
  go_wp2_with (fail)
  refine (uNew_ok 4 _ (by omega) (by omega) HE0.out).mono ?_
  rintro e w1 ⟨L, rfl, ht, hk, hlo⟩
  have HT1 := Lib.hid ht
  have HK1 := Lib.hid hk
  have HE1 := Lib.hid (HE0.out.keeps hk (by simp))
  have HLO := Lib.hid hlo
  clear ht hk hlo
  go_wp2_with (fail)
  refine (uEvent_any L 4 Tu.zero sh1 1 0 sh_1 _ HT1.out).mono ?_
  rintro e w2 ⟨rfl, ht, hk⟩
  have HT2 := Lib.hid ht
  have HK2 := Lib.hid (HK1.out.trans' hk (fun i hi => .inr (HLO.out i hi)))
  have HE2 := Lib.hid (HE1.out.keeps hk HT1.out.nz)
  clear ht hk
  go_wp2_with (fail)
  refine (uFeed_any L 4 sh1 sh1 0 ⟨#[97]⟩ (by decide) 0 171 sh_a _ HE2.out HT2.out).mono ?_
  rintro e w3 ⟨rfl, ht, hk⟩
  have HT3 := Lib.hid ht
  have HK3 := Lib.hid (HK2.out.trans' hk (fun i hi => .inr (HLO.out i hi)))
  have HE3 := Lib.hid (HE2.out.keeps hk HT1.out.nz)
  clear ht hk
  go_wp2_with (fail)
  refine (uEvent_any L 4 sh1 sh2 2 0 sh_2 _ HT3.out).mono ?_
  rintro e w4 ⟨rfl, ht, hk⟩
  have HT4 := Lib.hid ht
  have HK4 := Lib.hid (HK3.out.trans' hk (fun i hi => .inr (HLO.out i hi)))
  have HE4 := Lib.hid (HE3.out.keeps hk HT1.out.nz)
  clear ht hk
  go_wp2_with (fail)
  refine (uGrant_any L 4 sh2 sh3 0 3 0 sh_3 _ HE4.out HT4.out).mono ?_
  rintro e w5 ⟨rfl, ht, hk⟩
  have HT5 := Lib.hid ht
  have HK5 := Lib.hid (HK4.out.trans' hk (fun i hi => .inr (HLO.out i hi)))
  have HE5 := Lib.hid (HE4.out.keeps hk HT1.out.nz)
  clear ht hk
  go_wp2_with (fail)
  refine (uFeed_any L 4 sh3 sh4 0 ⟨#[97, 98, 99, 100, 101, 102]⟩ (by decide) 4 0 sh_4 _ HE5.out HT5.out).mono ?_
  rintro e w6 ⟨rfl, ht, hk⟩
  have HT6 := Lib.hid ht
  have HK6 := Lib.hid (HK5.out.trans' hk (fun i hi => .inr (HLO.out i hi)))
  have HE6 := Lib.hid (HE5.out.keeps hk HT1.out.nz)
  clear ht hk
  go_wp2_with (fail)
  refine (uMove_any L 4 sh4 sh5 0 9 3 0 sh_5 _ HE6.out HT6.out).mono ?_
  rintro e w7 ⟨rfl, ht, hk⟩
  have HT7 := Lib.hid ht
  have HK7 := Lib.hid (HK6.out.trans' hk (fun i hi => .inr (HLO.out i hi)))
  have HE7 := Lib.hid (HE6.out.keeps hk HT1.out.nz)
  clear ht hk
  go_wp2_with (fail)
  refine (uDrain_eq L 4 sh5 sh6 0 9 [97, 98, 99] 0 sh_6 ⟨#[97, 98, 99]⟩ rfl _ HE7.out HT7.out).mono ?_
  rintro e w8 ⟨rfl, ht, hk⟩
  have HT8 := Lib.hid ht
  have HK8 := Lib.hid (HK7.out.trans' hk (fun i hi => .inr (HLO.out i hi)))
  have HE8 := Lib.hid (HE7.out.keeps hk HT1.out.nz)
  clear ht hk
  go_wp2_with (fail)
  refine (uStop_any L 4 sh6 sh7 1 sh_7 _ HT8.out).mono ?_
  rintro e w9 ⟨rfl, ht, hk⟩
  have HT9 := Lib.hid ht
  have HK9 := Lib.hid (HK8.out.trans' hk (fun i hi => .inr (HLO.out i hi)))
  have HE9 := Lib.hid (HE8.out.keeps hk HT1.out.nz)
  clear ht hk
  go_wp2_with (fail)
  refine (uMove_any L 4 sh7 sh7 0 1 0 171 sh_b _ HE9.out HT9.out).mono ?_
  rintro e w10 ⟨rfl, ht, hk⟩
  have HT10 := Lib.hid ht
  have HK10 := Lib.hid (HK9.out.trans' hk (fun i hi => .inr (HLO.out i hi)))
  have HE10 := Lib.hid (HE9.out.keeps hk HT1.out.nz)
  clear ht hk
  go_wp2_with (fail)
  refine (uState_any L 4 sh7 _ HT10.out).mono ?_
  rintro e w11 ⟨rfl, rfl⟩
  go_wp2_with (fail)
  go_ret
  exact ⟨rfl, HK10.out⟩
end Go.Proofs.YtollcbacpoohlaaGreatDoor
