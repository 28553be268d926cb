/- The walk of shown. -/
import Derived.Test.YtfedhhndkeakhaaDoorWireN
import Derived.KernelRfl
namespace Go.Proofs.YtfedhhndkeakhaaDoor
open Go.RowKit
attribute [local go_sem ↓] Go.wp_at_zero Go.wp_at_succ

def sf : Fr := ⟨4, 258, ⟨#[104, 105]⟩⟩
def se : ByteArray := ⟨#[4, 1, 2, 0, 2, 104, 105]⟩
theorem s_enc : encA sf = (se, 0) := by kernel_rfl
theorem s_take : TakeA (⟨#[97]⟩ ++ se ++ ⟨#[98]⟩) 1 = (sf, 8, 0) := by kernel_rfl
theorem s_take2 : TakeA ⟨#[9]⟩ 0 = (fr0, 0, 31) := by kernel_rfl
theorem s_take3 : TakeA ⟨#[4, 0]⟩ 0 = (fr0, 0, 30) := by kernel_rfl
theorem s_all : allA (se ++ se ++ ⟨#[4]⟩) = ([sf, sf], 14, 0) := by kernel_rfl
theorem s_enc2 : encA ⟨4, 0, ⟨#[104, 105]⟩⟩ = (⟨#[]⟩, 33) := by kernel_rfl

theorem s_z1 : (⟨#[97]⟩ ++ se ++ ⟨#[98]⟩ : ByteArray).size ≤ maxLen := by decide +kernel
theorem s_z2 : (se ++ se ++ ⟨#[4]⟩ : ByteArray).size ≤ 1000000 := by decide +kernel
theorem s_z3 : (⟨#[9]⟩ : ByteArray).size ≤ maxLen := by decide +kernel
theorem s_z4 : (⟨#[4, 0]⟩ : ByteArray).size ≤ maxLen := by decide +kernel
theorem s_z5 : (⟨#[104, 105]⟩ : ByteArray).size ≤ maxLen := by decide +kernel

set_option maxRecDepth 100000 in
set_option maxHeartbeats 1000000 in
theorem wshown_any (w : World) (e : Nat → Addr) (he : Env w e) : Calls Tryd.prog 10 #[] w fun r w' => r = .returned (.bool true) ∧ Keeps [] w w' := by
  have hk0 := (Keeps.refl [] w).alloc (.cells sf.cells 23)
  have HK0 := Lib.hid hk0
  have HE0 := Lib.hid (he.keep hk0)
  have HB0 := Lib.hid (Blk.new w 23 sf.cells)
  clear he hk0
  go_enter Tryd.func10, Tryd.ntmps10
  go_wp2_with (fail)
  refine (encode_any sf (by decide +kernel) se 0 s_enc _ e HE0.out).mono ?_
  rintro r w1 ⟨rfl, hk⟩
  have HK1 := Lib.hid (HK0.out.trans hk)
  have HE1 := Lib.hid (HE0.out.keep hk)
  have HB1 := Lib.hid (HB0.out.keeps hk (by simp))
  clear hk
  have hz1 : (⟨#[97]⟩ : ByteArray).size = 1 := rfl
  have hz2 : se.size = 7 := rfl
  have hz3 : (⟨#[98]⟩ : ByteArray).size = 1 := rfl
  have hz4 : (⟨#[4]⟩ : ByteArray).size = 1 := rfl
  go_wp2_with (fail)
  refine (Take_any _ (by decide +kernel) 1 sf 8 0 (by kernel_rfl) _ e HE1.out).mono ?_
  rintro r w2 ⟨rfl, hk⟩
  unfold Fr.v
  have HK2 := Lib.hid (HK1.out.trans hk)
  have HE2 := Lib.hid (HE1.out.keep hk)
  have HB2 := Lib.hid (HB1.out.keeps hk (by simp))
  clear hk
  go_wp2_with (fail)
  refine (Take_any _ (by decide +kernel) 0 fr0 0 31 (by kernel_rfl) _ e (HE2.out.keep ((Keeps.refl [] w2).alloc (.cells sf.cells 23)))).mono ?_
  rintro r w3 ⟨rfl, hk⟩
  unfold Fr.v
  have hk2 := ((Keeps.refl [] w2).alloc (.cells sf.cells 23)).trans hk
  have HC3 := Lib.hid ((Blk.new w2 23 sf.cells).keeps hk (by simp))
  have HK3 := Lib.hid (HK2.out.trans hk2)
  have HE3 := Lib.hid (HE2.out.keep hk2)
  have HB3 := Lib.hid (HB2.out.keeps hk2 (by simp))
  clear hk hk2
  go_wp2_with (fail)
  refine (Take_any _ (by decide +kernel) 0 fr0 0 30 (by kernel_rfl) _ e (HE3.out.keep ((Keeps.refl [] w3).alloc (.cells fr0.cells 23)))).mono ?_
  rintro r w4 ⟨rfl, hk⟩
  unfold Fr.v
  have hk2 := ((Keeps.refl [] w3).alloc (.cells fr0.cells 23)).trans hk
  have HC4 := Lib.hid (HC3.out.keeps hk2 (by simp))
  have HK4 := Lib.hid (HK3.out.trans hk2)
  have HE4 := Lib.hid (HE3.out.keep hk2)
  have HB4 := Lib.hid (HB3.out.keeps hk2 (by simp))
  clear hk hk2
  go_wp2_with (fail)
  refine (all_any _ (by decide +kernel) [sf, sf] 14 0 (by kernel_rfl) _ e (HE4.out.keep ((Keeps.refl [] w4).alloc (.cells fr0.cells 23)))).mono ?_
  rintro r w5 ⟨v, rfl, hrow, hbel⟩
  obtain ⟨a, c, rfl, _, _⟩ := frs_of_row hrow
  have hk2 := ((Keeps.refl [] w4).alloc (.cells fr0.cells 23)).trans (Keeps.of_below hbel [])
  have HC5 := Lib.hid (HC4.out.keeps hk2 (by simp))
  have HK5 := Lib.hid (HK4.out.trans hk2)
  have HE5 := Lib.hid (HE4.out.keep hk2)
  have HB5 := Lib.hid (HB4.out.keeps hk2 (by simp))
  clear hrow hbel hk2
  go_wp2_with (fail)
  refine (encode_any ⟨4, 0, ⟨#[104, 105]⟩⟩ (by decide +kernel) ⟨#[]⟩ 33 (by kernel_rfl) _ e HE5.out).mono ?_
  rintro r w6 ⟨rfl, hk⟩
  have HK6 := Lib.hid (HK5.out.trans hk)
  obtain ⟨d0, d1, d2⟩ := fr_res (HC5.out.keeps hk (by simp))
  obtain ⟨c0, c1, c2⟩ := fr_res (HB5.out.keeps hk (by simp))
  have hgu := fr_guard
  have heq := fr_eql sf sf true (by decide +kernel)
  have hse : se.toList = [4, 1, 2, 0, 2, 104, 105] := by rw [ByteArray.toList_eq]; rfl
  unfold sf at d0 d1 d2 c0 c1 c2 heq
  dsimp only at d0 d1 d2 c0 c1 c2 heq
  clear hk
  go_wp2
  go_ret
  exact ⟨rfl, HK6.out⟩
end Go.Proofs.YtfedhhndkeakhaaDoor
