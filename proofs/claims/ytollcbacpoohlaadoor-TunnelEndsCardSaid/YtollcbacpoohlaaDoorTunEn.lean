/- The walk of TunnelEnds. Printed by gen_tunlaws.py. -/
import Derived.Test.YtollcbacpoohlaaDoorTunCr
import Derived.Test.YtollcbacpoohlaaDoorTunSt
namespace Go.Proofs.YtollcbacpoohlaaDoor
open Go.RowKit

theorem ends_k (cap : Nat) (hc : 1 ≤ cap) (q : List UInt8) (hq : q.length ≤ 50) : Wy.k cap ⟨[] ++ q.take (min q.length (cap - 0)), [], 10 + 100, 0, 0 + min q.length (cap - 0), 0⟩ 100 = min q.length (cap - 0) := by
  unfold Wy.k
  simp only [List.nil_append, List.length_take, List.length_nil]
  omega
theorem ends_u (cap : Nat) (hc : 1 ≤ cap) (q : List UInt8) (hq : q.length ≤ 50) (k : Nat) (hk : k = min q.length (cap - 0)) : ([] ++ ([] ++ q.take (min q.length (cap - 0))).take k).take 100 = q.take k := by
  subst hk
  rw [List.nil_append, List.nil_append, List.take_take, List.take_take]
  congr 1
  omega

set_option maxRecDepth 100000 in
theorem ends_bad (n : Int) (s : ByteArray) (hsz : s.size ≤ maxLen) (side : Int) (w : World) (hE : Et w) (h : n < 1 ∨ 4096 < n) :
    Calls Tryd.prog 4 #[.int .i64 n, .string s, .int .i64 side] w fun e w' => e = .returned (.bool true) ∧ Keeps [] w w' := by
  have HE0 := Lib.hid hE
  have H := Lib.hid h
  clear hE h
  unfold maxLen at hsz
  obtain ⟨s', hs'⟩ : ∃ s', s.extract 0 (min s.size 50) = s' := ⟨_, rfl⟩
  have hsz' : s'.size = min s.size 50 := by rw [← hs']; simp
  obtain ⟨m, hm⟩ : ∃ m, min s.size 50 = m := ⟨_, rfl⟩
  have hmin1 : (if (50 : Int) < (s.size : Int) then (50 : Int) else (s.size : Int)) = (m : Int) := by rw [← hm]; split <;> omega
  have hmin2 : (if 50 < s.size then (50 : Int) else (s.size : Int)) = (m : Int) := by rw [← hm]; split <;> omega
  have hsl : ∀ W : World, (Instr.slice 9 (.string s) none (some (.int .i64 (m : Int))) none).run Tryd.prog W = .ok (.string s') W := fun W => by
    have := run_slice_string_h (P := Tryd.prog) (w := W) (t := 9) (s := s) Tryd.underlying9 .i64 (m : Int) (by omega) (by omega)
    rw [← hs', hm]
    simpa using this
  clear hs' hsz' hm
  go_enter Tryd.func4, Tryd.ntmps4
  go_wp2_with (fail)
  refine (shown_any _ HE0.out).mono ?_
  rintro e w1 ⟨rfl, hk⟩
  have HK1 := Lib.hid hk
  have HE1 := Lib.hid (HE0.out.keeps hk (by simp))
  clear hk
  go_wp2_with (fail)
  refine (made_bad n _ _ H.out).mono ?_
  rintro e w2 ⟨rfl, hk⟩
  have HK2 := Lib.hid (HK1.out.trans hk)
  have HE2 := Lib.hid (HE1.out.keeps hk (by simp))
  clear hk
  go_wp2
  go_ret
  exact ⟨rfl, HK2.out⟩

set_option maxRecDepth 100000 in
set_option maxHeartbeats 4000000 in
theorem ends_0 (cap : Nat) (s : ByteArray) (hsz : s.size ≤ maxLen)  (w : World) (hE : Et w) (h1 : 1 ≤ cap) (h2 : cap ≤ 4096) :
    Calls Tryd.prog 4 #[.int .i64 cap, .string s, .int .i64 0] w fun e w' => e = .returned (.bool true) ∧ Keeps [] w w' := by
  have HE0 := Lib.hid hE
  clear hE
  unfold maxLen at hsz
  obtain ⟨s', hs'⟩ : ∃ s', s.extract 0 (min s.size 50) = s' := ⟨_, rfl⟩
  have hsz' : s'.size = min s.size 50 := by rw [← hs']; simp
  obtain ⟨m, hm⟩ : ∃ m, min s.size 50 = m := ⟨_, rfl⟩
  have hmin1 : (if (50 : Int) < (s.size : Int) then (50 : Int) else (s.size : Int)) = (m : Int) := by rw [← hm]; split <;> omega
  have hmin2 : (if 50 < s.size then (50 : Int) else (s.size : Int)) = (m : Int) := by rw [← hm]; split <;> omega
  have hsl : ∀ W : World, (Instr.slice 9 (.string s) none (some (.int .i64 (m : Int))) none).run Tryd.prog W = .ok (.string s') W := fun W => by
    have := run_slice_string_h (P := Tryd.prog) (w := W) (t := 9) (s := s) Tryd.underlying9 .i64 (m : Int) (by omega) (by omega)
    rw [← hs', hm]
    simpa using this
  obtain ⟨q, hq⟩ : ∃ q, s'.data.toList = q := ⟨_, rfl⟩
  have hql : q.length = s'.size := by rw [← hq]; simp
  obtain ⟨k, hk⟩ : ∃ k, min q.length (cap - 0) = k := ⟨_, rfl⟩
  obtain ⟨t1, g1, e1⟩ : ∃ t1, upT.grant 0 100 = (0, t1) ∧ t1 = (upT.grant 0 100).2 := ⟨_, rfl, rfl⟩
  obtain ⟨t2, g2, e2⟩ : ∃ t2, t1.feed cap 0 q = (k, 0, t2) ∧ t2 = (t1.feed cap 0 q).2.2 := ⟨_, by rw [e1, ← hk]; rfl, rfl⟩
  obtain ⟨t3, g3, e3⟩ : ∃ t3, t2.event 4 = (0, t3) ∧ t3 = (t2.event 4).2 := ⟨_, by rw [e2, e1]; rfl, rfl⟩
  obtain ⟨t4, g4, e4⟩ : ∃ t4, t3.feed cap 0 (⟨#[97]⟩ : ByteArray).data.toList = (0, 171, t4) ∧ t4 = t3 := ⟨_, by rw [e3, e2, e1]; rfl, rfl⟩
  obtain ⟨k5, t5, g5, e5⟩ : ∃ k5 t5, t4.feed cap 1 (⟨#[97]⟩ : ByteArray).data.toList = (k5, 0, t5) ∧ t5 = (t4.feed cap 1 (⟨#[97]⟩ : ByteArray).data.toList).2.2 := ⟨_, _, by rw [e4, e3, e2, e1]; rfl, rfl⟩
  obtain ⟨t6, g6, e6⟩ : ∃ t6, t5.event 5 = (0, t6) ∧ t6 = (t5.event 5).2 := ⟨_, by rw [e5, e4, e3, e2, e1]; rfl, rfl⟩
  obtain ⟨t7, g7, e7⟩ : ∃ t7, t6.feed cap 1 (⟨#[97]⟩ : ByteArray).data.toList = (0, 171, t7) ∧ t7 = t6 := ⟨_, by rw [e6, e5, e4, e3, e2, e1]; rfl, rfl⟩
  obtain ⟨t8, g8, e8⟩ : ∃ t8, t7.move cap 0 100 = (k, 0, t8) ∧ t8 = (t7.move cap 0 100).2.2 := ⟨_, by
    have hkk := ends_k cap h1 q (by omega)
    have hm : t7.move cap 0 100 = (Wy.k cap ⟨[] ++ q.take (min q.length (cap - 0)), [], 10 + 100, 0, 0 + min q.length (cap - 0), 0⟩ 100, 0, (t7.move cap 0 100).2.2) := by rw [e7, e6, e5, e4, e3, e2, e1]; rfl
    rw [hm, hkk, hk], rfl⟩
  obtain ⟨u, hu⟩ : ∃ u, str (q.take k) = u := ⟨_, rfl⟩
  obtain ⟨t9, g9, e9⟩ : ∃ t9, t8.drain 0 100 = (q.take k, 0, t9) ∧ t9 = (t8.drain 0 100).2.2 := ⟨_, by
    have hkk := ends_k cap h1 q (by omega)
    have huu := ends_u cap h1 q (by omega) _ rfl
    have hm : t8.drain 0 100 = (([] ++ ([] ++ q.take (min q.length (cap - 0))).take (Wy.k cap ⟨[] ++ q.take (min q.length (cap - 0)), [], 10 + 100, 0, 0 + min q.length (cap - 0), 0⟩ 100)).take 100, 0, (t8.drain 0 100).2.2) := by rw [e8, e7, e6, e5, e4, e3, e2, e1]; rfl
    rw [hm, hkk, huu, hk], rfl⟩
  have hst : (t9.st : Int) = 5 := by rw [e9, e8, e7, e6, e5, e4, e3, e2, e1]; rfl
  have hus : u = s'.extract 0 k := by rw [← hu, ← hq]; apply ByteArray.ext; apply Array.ext'; simp [str, ByteArray.data_extract]
  have hsk : ∀ W : World, (Instr.slice 9 (.string s') none (some (.int .i64 (k : Int))) none).run Tryd.prog W = .ok (.string u) W := fun W => by
    have := run_slice_string_h (P := Tryd.prog) (w := W) (t := 9) (s := s') Tryd.underlying9 .i64 (k : Int) (by omega) (by omega)
    simpa [hus] using this
  have hkm : (if cap < s'.size then (cap : Int) else s'.size) = k := by rw [← hk, hql]; split <;> omega
  have G1 := Lib.hid g1
  have G2 := Lib.hid (show t1.feed cap 0 s'.data.toList = (k, 0, t2) by rw [hq]; exact g2)
  have G3 := Lib.hid g3
  have G4 := Lib.hid g4
  have G5 := Lib.hid g5
  have G6 := Lib.hid g6
  have G7 := Lib.hid g7
  have G8 := Lib.hid g8
  have G9 := Lib.hid g9
  have HU := Lib.hid hu
  have HST := Lib.hid hst
  have HSZ := Lib.hid hsz'
  clear hs' hsz' hm hq hql hk e1 g1 e2 g2 e3 g3 e4 g4 e5 g5 e6 g6 e7 g7 e8 g8 e9 g9 hu hst hus
  go_enter Tryd.func4, Tryd.ntmps4
  go_wp2_with (fail)
  refine (shown_any _ HE0.out).mono ?_
  rintro e w1 ⟨rfl, hk⟩
  have HK1 := Lib.hid hk
  have HE1 := Lib.hid (HE0.out.keeps hk (by simp))
  clear hk
  go_wp2_with (fail)
  refine (made_up cap _ HE1.out h1 h2).mono ?_
  rintro e w2 ⟨L, rfl, ht, hk, hlo⟩
  have HK2 := Lib.hid (HK1.out.trans hk)
  have HE2 := Lib.hid (HE1.out.keeps hk (by simp))
  have HT2 := Lib.hid ht
  have HLO : Hid (∀ k ∈ L.l, w.heap.size ≤ k) := (fun k hk => Nat.le_trans HK1.out.size (hlo k hk) : ∀ k ∈ L.l, w.heap.size ≤ k)
  clear ht hk hlo
  go_wp2_with (fail)
  refine (uGrant_any L cap upT t1 0 100 0 G1.out _ HE2.out HT2.out).mono ?_
  rintro e w3 ⟨rfl, ht, hk⟩
  have HT3 := Lib.hid ht
  have HK3 := Lib.hid (HK2.out.trans' hk (fun i hi => .inr (HLO.out i hi)))
  have HE3 := Lib.hid (HE2.out.keeps hk HT2.out.nz)
  clear ht hk
  go_wp2_with (fail)
  refine (uFeed_any L cap t1 t2 0 s' (by have := HSZ.out; omega) k 0 G2.out _ HE3.out HT3.out).mono ?_
  rintro e w4 ⟨rfl, ht, hk⟩
  have HT4 := Lib.hid ht
  have HK4 := Lib.hid (HK3.out.trans' hk (fun i hi => .inr (HLO.out i hi)))
  have HE4 := Lib.hid (HE3.out.keeps hk HT3.out.nz)
  clear ht hk
  go_wp2_with (fail)
  refine (uEvent_any L cap t2 t3 4 0 G3.out _ HT4.out).mono ?_
  rintro e w5 ⟨rfl, ht, hk⟩
  have HT5 := Lib.hid ht
  have HK5 := Lib.hid (HK4.out.trans' hk (fun i hi => .inr (HLO.out i hi)))
  have HE5 := Lib.hid (HE4.out.keeps hk HT4.out.nz)
  clear ht hk
  go_wp2_with (fail)
  refine (uFeed_any L cap t3 t4 0 ⟨#[97]⟩ (by decide) 0 171 G4.out _ HE5.out HT5.out).mono ?_
  rintro e w6 ⟨rfl, ht, hk⟩
  have HT6 := Lib.hid ht
  have HK6 := Lib.hid (HK5.out.trans' hk (fun i hi => .inr (HLO.out i hi)))
  have HE6 := Lib.hid (HE5.out.keeps hk HT5.out.nz)
  clear ht hk
  go_wp2_with (fail)
  refine (uFeed_any L cap t4 t5 1 ⟨#[97]⟩ (by decide) k5 0 G5.out _ HE6.out HT6.out).mono ?_
  rintro e w7 ⟨rfl, ht, hk⟩
  have HT7 := Lib.hid ht
  have HK7 := Lib.hid (HK6.out.trans' hk (fun i hi => .inr (HLO.out i hi)))
  have HE7 := Lib.hid (HE6.out.keeps hk HT6.out.nz)
  clear ht hk
  go_wp2_with (fail)
  refine (uEvent_any L cap t5 t6 5 0 G6.out _ HT7.out).mono ?_
  rintro e w8 ⟨rfl, ht, hk⟩
  have HT8 := Lib.hid ht
  have HK8 := Lib.hid (HK7.out.trans' hk (fun i hi => .inr (HLO.out i hi)))
  have HE8 := Lib.hid (HE7.out.keeps hk HT7.out.nz)
  clear ht hk
  go_wp2_with (fail)
  refine (uFeed_any L cap t6 t7 1 ⟨#[97]⟩ (by decide) 0 171 G7.out _ HE8.out HT8.out).mono ?_
  rintro e w9 ⟨rfl, ht, hk⟩
  have HT9 := Lib.hid ht
  have HK9 := Lib.hid (HK8.out.trans' hk (fun i hi => .inr (HLO.out i hi)))
  have HE9 := Lib.hid (HE8.out.keeps hk HT8.out.nz)
  clear ht hk
  go_wp2_with (fail)
  refine (uMove_any L cap t7 t8 0 100 k 0 G8.out _ HE9.out HT9.out).mono ?_
  rintro e w10 ⟨rfl, ht, hk⟩
  have HT10 := Lib.hid ht
  have HK10 := Lib.hid (HK9.out.trans' hk (fun i hi => .inr (HLO.out i hi)))
  have HE10 := Lib.hid (HE9.out.keeps hk HT9.out.nz)
  clear ht hk
  go_wp2_with (fail)
  refine (uDrain_eq L cap t8 t9 0 100 _ 0 G9.out u HU.out _ HE10.out HT10.out).mono ?_
  rintro e w11 ⟨rfl, ht, hk⟩
  have HT11 := Lib.hid ht
  have HK11 := Lib.hid (HK10.out.trans' hk (fun i hi => .inr (HLO.out i hi)))
  have HE11 := Lib.hid (HE10.out.keeps hk HT10.out.nz)
  clear ht hk
  go_wp2_with (fail)
  refine (uState_eq L cap t9 5 HST.out _ HT11.out).mono ?_
  rintro e w20 ⟨rfl, rfl⟩
  go_wp2
  go_ret
  exact ⟨rfl, HK11.out⟩

set_option maxRecDepth 100000 in
set_option maxHeartbeats 4000000 in
theorem ends_1 (cap : Nat) (s : ByteArray) (hsz : s.size ≤ maxLen)  (w : World) (hE : Et w) (h1 : 1 ≤ cap) (h2 : cap ≤ 4096) :
    Calls Tryd.prog 4 #[.int .i64 cap, .string s, .int .i64 1] w fun e w' => e = .returned (.bool true) ∧ Keeps [] w w' := by
  have HE0 := Lib.hid hE
  clear hE
  unfold maxLen at hsz
  obtain ⟨s', hs'⟩ : ∃ s', s.extract 0 (min s.size 50) = s' := ⟨_, rfl⟩
  have hsz' : s'.size = min s.size 50 := by rw [← hs']; simp
  obtain ⟨m, hm⟩ : ∃ m, min s.size 50 = m := ⟨_, rfl⟩
  have hmin1 : (if (50 : Int) < (s.size : Int) then (50 : Int) else (s.size : Int)) = (m : Int) := by rw [← hm]; split <;> omega
  have hmin2 : (if 50 < s.size then (50 : Int) else (s.size : Int)) = (m : Int) := by rw [← hm]; split <;> omega
  have hsl : ∀ W : World, (Instr.slice 9 (.string s) none (some (.int .i64 (m : Int))) none).run Tryd.prog W = .ok (.string s') W := fun W => by
    have := run_slice_string_h (P := Tryd.prog) (w := W) (t := 9) (s := s) Tryd.underlying9 .i64 (m : Int) (by omega) (by omega)
    rw [← hs', hm]
    simpa using this
  obtain ⟨q, hq⟩ : ∃ q, s'.data.toList = q := ⟨_, rfl⟩
  have hql : q.length = s'.size := by rw [← hq]; simp
  obtain ⟨k, hk⟩ : ∃ k, min q.length (cap - 0) = k := ⟨_, rfl⟩
  obtain ⟨t1, g1, e1⟩ : ∃ t1, upT.grant 1 100 = (0, t1) ∧ t1 = (upT.grant 1 100).2 := ⟨_, rfl, rfl⟩
  obtain ⟨t2, g2, e2⟩ : ∃ t2, t1.feed cap 1 q = (k, 0, t2) ∧ t2 = (t1.feed cap 1 q).2.2 := ⟨_, by rw [e1, ← hk]; rfl, rfl⟩
  obtain ⟨t3, g3, e3⟩ : ∃ t3, t2.event 5 = (0, t3) ∧ t3 = (t2.event 5).2 := ⟨_, by rw [e2, e1]; rfl, rfl⟩
  obtain ⟨t4, g4, e4⟩ : ∃ t4, t3.feed cap 1 (⟨#[97]⟩ : ByteArray).data.toList = (0, 171, t4) ∧ t4 = t3 := ⟨_, by rw [e3, e2, e1]; rfl, rfl⟩
  obtain ⟨k5, t5, g5, e5⟩ : ∃ k5 t5, t4.feed cap 0 (⟨#[97]⟩ : ByteArray).data.toList = (k5, 0, t5) ∧ t5 = (t4.feed cap 0 (⟨#[97]⟩ : ByteArray).data.toList).2.2 := ⟨_, _, by rw [e4, e3, e2, e1]; rfl, rfl⟩
  obtain ⟨t6, g6, e6⟩ : ∃ t6, t5.event 4 = (0, t6) ∧ t6 = (t5.event 4).2 := ⟨_, by rw [e5, e4, e3, e2, e1]; rfl, rfl⟩
  obtain ⟨t7, g7, e7⟩ : ∃ t7, t6.feed cap 0 (⟨#[97]⟩ : ByteArray).data.toList = (0, 171, t7) ∧ t7 = t6 := ⟨_, by rw [e6, e5, e4, e3, e2, e1]; rfl, rfl⟩
  obtain ⟨t8, g8, e8⟩ : ∃ t8, t7.move cap 1 100 = (k, 0, t8) ∧ t8 = (t7.move cap 1 100).2.2 := ⟨_, by
    have hkk := ends_k cap h1 q (by omega)
    have hm : t7.move cap 1 100 = (Wy.k cap ⟨[] ++ q.take (min q.length (cap - 0)), [], 10 + 100, 0, 0 + min q.length (cap - 0), 0⟩ 100, 0, (t7.move cap 1 100).2.2) := by rw [e7, e6, e5, e4, e3, e2, e1]; rfl
    rw [hm, hkk, hk], rfl⟩
  obtain ⟨u, hu⟩ : ∃ u, str (q.take k) = u := ⟨_, rfl⟩
  obtain ⟨t9, g9, e9⟩ : ∃ t9, t8.drain 1 100 = (q.take k, 0, t9) ∧ t9 = (t8.drain 1 100).2.2 := ⟨_, by
    have hkk := ends_k cap h1 q (by omega)
    have huu := ends_u cap h1 q (by omega) _ rfl
    have hm : t8.drain 1 100 = (([] ++ ([] ++ q.take (min q.length (cap - 0))).take (Wy.k cap ⟨[] ++ q.take (min q.length (cap - 0)), [], 10 + 100, 0, 0 + min q.length (cap - 0), 0⟩ 100)).take 100, 0, (t8.drain 1 100).2.2) := by rw [e8, e7, e6, e5, e4, e3, e2, e1]; rfl
    rw [hm, hkk, huu, hk], rfl⟩
  have hst : (t9.st : Int) = 5 := by rw [e9, e8, e7, e6, e5, e4, e3, e2, e1]; rfl
  have hus : u = s'.extract 0 k := by rw [← hu, ← hq]; apply ByteArray.ext; apply Array.ext'; simp [str, ByteArray.data_extract]
  have hsk : ∀ W : World, (Instr.slice 9 (.string s') none (some (.int .i64 (k : Int))) none).run Tryd.prog W = .ok (.string u) W := fun W => by
    have := run_slice_string_h (P := Tryd.prog) (w := W) (t := 9) (s := s') Tryd.underlying9 .i64 (k : Int) (by omega) (by omega)
    simpa [hus] using this
  have hkm : (if cap < s'.size then (cap : Int) else s'.size) = k := by rw [← hk, hql]; split <;> omega
  have G1 := Lib.hid g1
  have G2 := Lib.hid (show t1.feed cap 1 s'.data.toList = (k, 0, t2) by rw [hq]; exact g2)
  have G3 := Lib.hid g3
  have G4 := Lib.hid g4
  have G5 := Lib.hid g5
  have G6 := Lib.hid g6
  have G7 := Lib.hid g7
  have G8 := Lib.hid g8
  have G9 := Lib.hid g9
  have HU := Lib.hid hu
  have HST := Lib.hid hst
  have HSZ := Lib.hid hsz'
  clear hs' hsz' hm hq hql hk e1 g1 e2 g2 e3 g3 e4 g4 e5 g5 e6 g6 e7 g7 e8 g8 e9 g9 hu hst hus
  go_enter Tryd.func4, Tryd.ntmps4
  go_wp2_with (fail)
  refine (shown_any _ HE0.out).mono ?_
  rintro e w1 ⟨rfl, hk⟩
  have HK1 := Lib.hid hk
  have HE1 := Lib.hid (HE0.out.keeps hk (by simp))
  clear hk
  go_wp2_with (fail)
  refine (made_up cap _ HE1.out h1 h2).mono ?_
  rintro e w2 ⟨L, rfl, ht, hk, hlo⟩
  have HK2 := Lib.hid (HK1.out.trans hk)
  have HE2 := Lib.hid (HE1.out.keeps hk (by simp))
  have HT2 := Lib.hid ht
  have HLO : Hid (∀ k ∈ L.l, w.heap.size ≤ k) := (fun k hk => Nat.le_trans HK1.out.size (hlo k hk) : ∀ k ∈ L.l, w.heap.size ≤ k)
  clear ht hk hlo
  go_wp2_with (fail)
  refine (uGrant_any L cap upT t1 1 100 0 G1.out _ HE2.out HT2.out).mono ?_
  rintro e w3 ⟨rfl, ht, hk⟩
  have HT3 := Lib.hid ht
  have HK3 := Lib.hid (HK2.out.trans' hk (fun i hi => .inr (HLO.out i hi)))
  have HE3 := Lib.hid (HE2.out.keeps hk HT2.out.nz)
  clear ht hk
  go_wp2_with (fail)
  refine (uFeed_any L cap t1 t2 1 s' (by have := HSZ.out; omega) k 0 G2.out _ HE3.out HT3.out).mono ?_
  rintro e w4 ⟨rfl, ht, hk⟩
  have HT4 := Lib.hid ht
  have HK4 := Lib.hid (HK3.out.trans' hk (fun i hi => .inr (HLO.out i hi)))
  have HE4 := Lib.hid (HE3.out.keeps hk HT3.out.nz)
  clear ht hk
  go_wp2_with (fail)
  refine (uEvent_any L cap t2 t3 5 0 G3.out _ HT4.out).mono ?_
  rintro e w5 ⟨rfl, ht, hk⟩
  have HT5 := Lib.hid ht
  have HK5 := Lib.hid (HK4.out.trans' hk (fun i hi => .inr (HLO.out i hi)))
  have HE5 := Lib.hid (HE4.out.keeps hk HT4.out.nz)
  clear ht hk
  go_wp2_with (fail)
  refine (uFeed_any L cap t3 t4 1 ⟨#[97]⟩ (by decide) 0 171 G4.out _ HE5.out HT5.out).mono ?_
  rintro e w6 ⟨rfl, ht, hk⟩
  have HT6 := Lib.hid ht
  have HK6 := Lib.hid (HK5.out.trans' hk (fun i hi => .inr (HLO.out i hi)))
  have HE6 := Lib.hid (HE5.out.keeps hk HT5.out.nz)
  clear ht hk
  go_wp2_with (fail)
  refine (uFeed_any L cap t4 t5 0 ⟨#[97]⟩ (by decide) k5 0 G5.out _ HE6.out HT6.out).mono ?_
  rintro e w7 ⟨rfl, ht, hk⟩
  have HT7 := Lib.hid ht
  have HK7 := Lib.hid (HK6.out.trans' hk (fun i hi => .inr (HLO.out i hi)))
  have HE7 := Lib.hid (HE6.out.keeps hk HT6.out.nz)
  clear ht hk
  go_wp2_with (fail)
  refine (uEvent_any L cap t5 t6 4 0 G6.out _ HT7.out).mono ?_
  rintro e w8 ⟨rfl, ht, hk⟩
  have HT8 := Lib.hid ht
  have HK8 := Lib.hid (HK7.out.trans' hk (fun i hi => .inr (HLO.out i hi)))
  have HE8 := Lib.hid (HE7.out.keeps hk HT7.out.nz)
  clear ht hk
  go_wp2_with (fail)
  refine (uFeed_any L cap t6 t7 0 ⟨#[97]⟩ (by decide) 0 171 G7.out _ HE8.out HT8.out).mono ?_
  rintro e w9 ⟨rfl, ht, hk⟩
  have HT9 := Lib.hid ht
  have HK9 := Lib.hid (HK8.out.trans' hk (fun i hi => .inr (HLO.out i hi)))
  have HE9 := Lib.hid (HE8.out.keeps hk HT8.out.nz)
  clear ht hk
  go_wp2_with (fail)
  refine (uMove_any L cap t7 t8 1 100 k 0 G8.out _ HE9.out HT9.out).mono ?_
  rintro e w10 ⟨rfl, ht, hk⟩
  have HT10 := Lib.hid ht
  have HK10 := Lib.hid (HK9.out.trans' hk (fun i hi => .inr (HLO.out i hi)))
  have HE10 := Lib.hid (HE9.out.keeps hk HT9.out.nz)
  clear ht hk
  go_wp2_with (fail)
  refine (uDrain_eq L cap t8 t9 1 100 _ 0 G9.out u HU.out _ HE10.out HT10.out).mono ?_
  rintro e w11 ⟨rfl, ht, hk⟩
  have HT11 := Lib.hid ht
  have HK11 := Lib.hid (HK10.out.trans' hk (fun i hi => .inr (HLO.out i hi)))
  have HE11 := Lib.hid (HE10.out.keeps hk HT10.out.nz)
  clear ht hk
  go_wp2_with (fail)
  refine (uState_eq L cap t9 5 HST.out _ HT11.out).mono ?_
  rintro e w20 ⟨rfl, rfl⟩
  go_wp2
  go_ret
  exact ⟨rfl, HK11.out⟩

set_option maxRecDepth 100000 in
set_option maxHeartbeats 4000000 in
theorem ends_side (cap : Nat) (s : ByteArray) (hsz : s.size ≤ maxLen) (side : Int) (hs : side < 0 ∨ 1 < side) (w : World) (hE : Et w) (h1 : 1 ≤ cap) (h2 : cap ≤ 4096) :
    Calls Tryd.prog 4 #[.int .i64 cap, .string s, .int .i64 side] w fun e w' => e = .returned (.bool true) ∧ Keeps [] w w' := by
  have HE0 := Lib.hid hE
  clear hE
  unfold maxLen at hsz
  obtain ⟨s', hs'⟩ : ∃ s', s.extract 0 (min s.size 50) = s' := ⟨_, rfl⟩
  have hsz' : s'.size = min s.size 50 := by rw [← hs']; simp
  obtain ⟨m, hm⟩ : ∃ m, min s.size 50 = m := ⟨_, rfl⟩
  have hmin1 : (if (50 : Int) < (s.size : Int) then (50 : Int) else (s.size : Int)) = (m : Int) := by rw [← hm]; split <;> omega
  have hmin2 : (if 50 < s.size then (50 : Int) else (s.size : Int)) = (m : Int) := by rw [← hm]; split <;> omega
  have hsl : ∀ W : World, (Instr.slice 9 (.string s) none (some (.int .i64 (m : Int))) none).run Tryd.prog W = .ok (.string s') W := fun W => by
    have := run_slice_string_h (P := Tryd.prog) (w := W) (t := 9) (s := s) Tryd.underlying9 .i64 (m : Int) (by omega) (by omega)
    rw [← hs', hm]
    simpa using this
  clear hs' hsz' hm
  go_enter Tryd.func4, Tryd.ntmps4
  go_wp2_with (fail)
  refine (shown_any _ HE0.out).mono ?_
  rintro e w1 ⟨rfl, hk⟩
  have HK1 := Lib.hid hk
  have HE1 := Lib.hid (HE0.out.keeps hk (by simp))
  clear hk
  go_wp2_with (fail)
  refine (made_up cap _ HE1.out h1 h2).mono ?_
  rintro e w2 ⟨L, rfl, -, hk, -⟩
  have HK2 := Lib.hid (HK1.out.trans hk)
  have HE2 := Lib.hid (HE1.out.keeps hk (by simp))
  clear hk
  rcases hs with hs | hs
  · go_wp2
    go_ret
    exact ⟨rfl, HK2.out⟩
  · have hs' : ¬ side < 0 := by omega
    go_wp2
    go_ret
    exact ⟨rfl, HK2.out⟩

theorem endslaw_any (n : Int) (s : ByteArray) (side : Int) (w : World) (hsz : s.size ≤ maxLen) (hE : Et w) :
    Calls Tryd.prog 4 #[.int .i64 n, .string s, .int .i64 side] w fun e w' => e = .returned (.bool true) ∧ Keeps [] w w' := by
  by_cases hn : n < 1 ∨ 4096 < n
  · exact ends_bad n s hsz side w hE hn
  · obtain ⟨cap, rfl⟩ : ∃ cap : Nat, n = cap := ⟨n.toNat, by omega⟩
    by_cases h0 : side = 0
    · subst h0; exact ends_0 cap s hsz w hE (by omega) (by omega)
    · by_cases h1 : side = 1
      · subst h1; exact ends_1 cap s hsz w hE (by omega) (by omega)
      · exact ends_side cap s hsz side (by omega) w hE (by omega) (by omega)
end Go.Proofs.YtollcbacpoohlaaDoor
