/- The walk of the law's shown. -/
import Derived.Test.YtbcppmcjbcnlbaaDoorSnapT
namespace Go.Proofs.YtbcppmcjbcnlbaaDoor
open Go.RowKit Go.Shelf
attribute [local go_sem ↓] Go.wp_at_zero Go.wp_at_succ
def sA : ByteArray := ⟨#[97]⟩
def sB : ByteArray := ⟨#[98]⟩
def sC : ByteArray := ⟨#[99]⟩
theorem sh1 : pinA ⟨[], 1⟩ [sA, sB, sC] 5 = (⟨[⟨1, [sA, sB, sC], 5⟩], 2⟩, 1, 0) := by kernel_rfl
theorem sh2 : pageA ⟨[⟨1, [sA, sB, sC], 5⟩], 2⟩ 1 0 2 6 = (⟨[⟨1, [sA, sB, sC], 6⟩], 2⟩, [sA, sB], 2, 0) := by kernel_rfl
theorem sh3 : pageA ⟨[⟨1, [sA, sB, sC], 6⟩], 2⟩ 1 2 2 7 = (⟨[⟨1, [sA, sB, sC], 7⟩], 2⟩, [sC], -1, 0) := by kernel_rfl
theorem sh4 : pageA ⟨[⟨1, [sA, sB, sC], 7⟩], 2⟩ 1 0 2 1007 = (po0, [], 0, 161) := by kernel_rfl
theorem sh5 : pageA ⟨[⟨1, [sA, sB, sC], 7⟩], 2⟩ 9 0 2 7 = (po0, [], 0, 161) := by kernel_rfl
theorem strV_new (w : World) (xs : List ByteArray) (h1 : xs.length ≤ 1000) (h2 : ∀ x ∈ xs, x.size ≤ maxLen) : StrsV (w.alloc (.cells (xs.map Value.string).toArray 9)) (some ⟨w.heap.size, 0, none⟩) xs.length xs := by
  refine ⟨Nat.le_refl _, fun _ => ⟨w.heap.size, 0, _, (0, 0), rfl, (Blk.new w 9 (xs.map Value.string).toArray), fun i hi => ?_⟩, by omega, h2, fun h => by cases h⟩
  rw [Nat.zero_add, (Blk.new w 9 (xs.map Value.string).toArray).cell]
  simp [hi]
theorem pool_new (w : World) : PoolV w none 0 [] ⟨[], 1⟩ := ⟨Nat.le_refl _, by simp, fun h => absurd rfl h, trivial⟩

set_option maxRecDepth 100000 in
set_option maxHeartbeats 8000000 in
theorem shown_any (w : World) (e : Nat → Addr) (he : Env w e) : Calls Tryd.prog 9 #[] w fun r w' => r = .returned (.bool true) ∧ Keeps [] w w' := by
  have HE := Lib.hid he
  clear he
  go_enter Tryd.func9, Tryd.ntmps9
  go_wp2_with (fail)
  refine (NNew _).mono ?_
  rintro r w0 ⟨rfl, k0⟩
  have K0 := Lib.hid k0
  clear k0
  go_wp2_with (fail)
  have HE := Lib.hid (HE.out.keep (K0.out.alloc (.cells #[.string sA, .string sB, .string sC] 9)))
  refine (pin_any none 0 [] ⟨[], 1⟩ 0 rfl (some ⟨w0.heap.size, 0, none⟩) 3 3 [sA, sB, sC] rfl 5 _ (pool_new _) (strV_new w0 [sA, sB, sC] (by decide) (by decide)) e HE.out _ _ _ sh1).mono ?_
  rintro r w1 ⟨a1, n1, c1, V1, rfl, hn1, hP1, k1⟩
  have K1 := Lib.hid ((K0.out.alloc (.cells #[.string sA, .string sB, .string sC] 9)).trans k1)
  have HE := Lib.hid (HE.out.keep k1)
  have HP1 := Lib.hid hP1
  have HN1 := Lib.hid hn1
  clear k1 K0 hP1 hn1
  dsimp only
  go_wp2_with (fail)
  refine (page_any a1 c1 V1 _ n1 HN1.out 1 0 2 6 _ (HP1.out.keeps ((Keeps.refl [] w1).alloc _)) e (HE.out.keep ((Keeps.refl [] w1).alloc _)) _ _ _ _ sh2).mono ?_
  rintro r w2 ⟨a2, n2, c2, V2, pa2, m2, pc2, rfl, hn2, hP2, hm2, hs2, k2⟩
  have K2 := Lib.hid ((K1.out.alloc (.cells #[.slice a1 n1 c1, .int .i64 2] 24)).trans k2)
  have HE := Lib.hid (HE.out.keep (((Keeps.refl [] w1).alloc _).trans k2))
  have HP2 := Lib.hid hP2
  have HN2 := Lib.hid hn2
  have HS2 := Lib.hid hs2
  have HM2 := Lib.hid hm2
  clear k2 K1 hP2 hn2 hm2 hs2 HP1 HN1
  dsimp only
  go_wp2_with (fail)
  refine (page_any a2 c2 V2 _ n2 HN2.out 1 2 2 7 _ (HP2.out.keeps ((Keeps.refl [] w2).alloc _)) e (HE.out.keep ((Keeps.refl [] w2).alloc _)) _ _ _ _ sh3).mono ?_
  rintro r w3 ⟨a3, n3, c3, V3, pa3, m3, pc3, rfl, hn3, hP3, hm3, hs3, k3⟩
  have k23 := ((Keeps.refl [] w2).alloc (.cells #[.slice a2 n2 c2, .int .i64 2] 24)).trans k3
  have K3 := Lib.hid (K2.out.trans k23)
  have HE := Lib.hid (HE.out.keep k23)
  have HP3 := Lib.hid hP3
  have HN3 := Lib.hid hn3
  have HS3 := Lib.hid hs3
  have HM3 := Lib.hid hm3
  have HS2 := Lib.hid (HS2.out.keeps k23)
  clear k3 k23 K2 hP3 hn3 hm3 hs3 HP2 HN2
  dsimp only
  go_wp2_with (fail)
  refine (page_any a3 c3 V3 _ n3 HN3.out 1 0 2 1007 _ (HP3.out.keeps ((Keeps.refl [] w3).alloc _)) e (HE.out.keep ((Keeps.refl [] w3).alloc _)) _ _ _ _ sh4).mono ?_
  rintro r w4 ⟨a4, n4, c4, V4, pa4, m4, pc4, rfl, hn4, hP4, hm4, hs4, k4⟩
  have k34 := ((Keeps.refl [] w3).alloc (.cells #[.slice a3 n3 c3, .int .i64 2] 24)).trans k4
  have hb3 := (Blk.new w3 24 #[.slice a3 n3 c3, .int .i64 2]).keeps k4 (by simp)
  have K4 := Lib.hid (K3.out.trans k34)
  have HE := Lib.hid (HE.out.keep k34)
  have HP3 := Lib.hid (HP3.out.keeps k34)
  have HS3 := Lib.hid (HS3.out.keeps k34)
  have HS2 := Lib.hid (HS2.out.keeps k34)
  have HB3 := Lib.hid (hb3.alloc (.cells #[.slice a4 n4 c4, .int .i64 po0.next] 24))
  have q0 := HB3.out.cell 0
  have q1 := HB3.out.cell 1
  clear k4 k34 K3 hP4 hn4 hm4 hs4 hb3
  dsimp only
  go_wp2_with (fail)
  refine (page_any a3 c3 V3 _ n3 HN3.out 9 0 2 7 _ (HP3.out.keeps ((Keeps.refl [] w4).alloc _)) e (HE.out.keep ((Keeps.refl [] w4).alloc _)) _ _ _ _ sh5).mono ?_
  rintro r w5 ⟨a5, n5, c5, V5, pa5, m5, pc5, rfl, hn5, hP5, hm5, hs5, k5⟩
  have k45 := ((Keeps.refl [] w4).alloc (.cells #[.slice a4 n4 c4, .int .i64 po0.next] 24)).trans k5
  have K5 := Lib.hid (K4.out.trans k45)
  have HS3 := Lib.hid (HS3.out.keeps k45)
  have HS2 := Lib.hid (HS2.out.keeps k45)
  clear k5 k45 K4 hP5 hn5 hm5 hs5 q0 q1 HB3 HE HP3 HN3
  dsimp only
  go_wp2_with (fail)
  have hsA := strV_new (w5.alloc (.cells #[.slice a5 n5 c5, .int .i64 po0.next] 24)) [sA, sB] (by decide) (by decide)
  rw [show (w5.alloc (.cells #[.slice a5 n5 c5, .int .i64 po0.next] 24)).heap.size = w5.heap.size + 1 by simp] at hsA
  have k5 := ((Keeps.refl [] w5).alloc (.cells #[.slice a5 n5 c5, .int .i64 po0.next] 24)).alloc (.cells #[.string sA, .string sB] 9)
  refine (samestr_any pa2 _ pc2 2 [sA, sB] [sA, sB] m2 2 HM2.out rfl true (by simp) _ (HS2.out.keeps k5) hsA).mono ?_
  rintro r w6 ⟨rfl, k6⟩
  have K6 := Lib.hid ((K5.out.trans k5).trans k6)
  have HS3 := Lib.hid ((HS3.out.keeps k5).keeps k6)
  clear k5 k6 K5 hsA HS2 HM2
  dsimp only
  go_wp2_with (fail)
  have k6 := (Keeps.refl [] w6).alloc (.cells #[.string sC] 9)
  refine (samestr_any pa3 _ pc3 1 [sC] [sC] m3 1 HM3.out rfl true (by simp) _ (HS3.out.keeps k6) (strV_new w6 [sC] (by decide) (by decide))).mono ?_
  rintro r w7 ⟨rfl, k7⟩
  have K7 := Lib.hid ((K6.out.trans k6).trans k7)
  clear k6 k7 K6 HS3 HM3
  dsimp only
  go_wp2
  exact bodyPost_ret (v := .bool true) (by simp [results, Tryd.results9, go_sem]) rfl ⟨rfl, K7.out⟩
end Go.Proofs.YtbcppmcjbcnlbaaDoor
